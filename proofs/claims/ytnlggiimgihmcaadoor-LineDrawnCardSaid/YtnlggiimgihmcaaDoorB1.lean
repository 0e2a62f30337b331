/-
  Contracts of functions that build a slice by appending: ref.Mirror, ref.Reverse, ref.Drop. Conditions: the slices read as lists of ints, sums fit.
-/
import Derived.Test.YtnlggiimgihmcaaDoorA3
import Derived.Test.YtnlggiimgihmcaaDoorOwn
namespace Go.Proofs.YtnlggiimgihmcaaDoor
open Go.RowKit

theorem map_take_succ {α β : Type} (f : α → β) (L : List α) (k : Nat) (x : α) (hx : L[k]? = some x) : (L.take (k + 1)).map f = (L.take k).map f ++ [f x] := by
  rw [List.take_add_one, hx]; simp

/-- The letters of a word are between 0 and 40. -/
def In40 (L : List Int) : Prop := ∀ x ∈ L, 0 ≤ x ∧ x ≤ 40
theorem in40_of_wordB {L : List Int} (h : wordB L = true) : In40 L := by
  unfold wordB at h
  simp only [Bool.and_eq_true, List.all_eq_true] at h
  intro x hx
  have := h.2 x hx
  unfold inB at this
  simpa using this
theorem len_of_wordB {L : List Int} (h : wordB L = true) : L.length ≤ 400 ∧ L.length % 2 = 0 := by
  unfold wordB at h
  simp only [Bool.and_eq_true, decide_eq_true_eq] at h
  exact ⟨h.1.2, h.1.1⟩
theorem In40.at_ {L : List Int} (h : In40 L) {k : Nat} {x : Int} (hx : L[k]? = some x) : 0 ≤ x ∧ x ≤ 40 := h x (List.mem_of_getElem? hx)

set_option maxHeartbeats 400000 in
theorem ref_mirror (K : Int) (A : Option Addr) (n c : Nat) (L : List Int) (w : World) (hA : Ints w A n L) (hK : 0 ≤ K) (hK' : K ≤ 40) (hL : In40 L) :
    Calls Tryd.prog 46 #[.int .i64 K, .slice A n c] w fun e w' => ∃ A' c', e = .returned (.slice A' n c') ∧ Own w' w.heap.size A' n c' (L.map (K - ·)) ∧ Below w.heap.size w w' := by
  have HL := Lib.hid hA.len
  have hle := hA.le
  go_enter Tryd.func46, Tryd.ntmps46
  go_wp2_with fail
  go_loopw [5, 6] (fun v i wr => ∃ (k : Nat) (B : Option Addr) (d : Nat) (P : List Int), k ≤ n ∧ i = .int .i64 k ∧ v = .slice B k d ∧ Own wr w.heap.size B k d P ∧ Below w.heap.size w wr ∧ Hid (P = (L.take k).map (K - ·))) (fun _ i _ => n - (intOf i).toNat)
  case atStart => exact ⟨0, none, 0, [], Nat.zero_le _, rfl, rfl, Own.nil _ _, Below.refl _ _, rfl⟩
  case round =>
    obtain ⟨k, B, d, P, hk, rfl, rfl, hown, hb, HP⟩ := hrel
    by_cases hlt : k < n
    · obtain ⟨ad, x, rfl, hx, hx1, hx2, hc⟩ := (hA.below hb).at_ hlt
      obtain ⟨hx3, hx4⟩ := hL.at_ hx.out
      go_wp2_with (at_builtin; refine app1 rfl _ _ rfl (hown.alloc _) (K - x) rfl rfl ?c1 ?c2 (by omega) ?c3 ?_)
      case c1 => rw [World.cell?_alloc_at _ _ _ _ rfl]; rfl
      case c2 => unfold I64; omega
      case c3 => have := hb.size; simp; omega
      intro B' d' w1 hown' hb' _ _
      have hbw := (hb.alloc hb.size (.cells #[.int .i64 (K - x)] 3)).trans hb'
      have HP' : Hid (P ++ [K - x] = (L.take (k + 1)).map (K - ·)) := by unfold Hid; rw [map_take_succ _ L k x hx.out, HP.out]
      clear hown hb hb' hc HP
      go_wp2_with fail
      go_roundw
      case rel => exact ⟨k + 1, B', d', _, by omega, by go_num, rfl, hown', hbw, HP'⟩
      case measure => simp [intOf] <;> omega
    · go_wp2_with fail
      go_ret
      have hkn : k = n := by omega
      subst hkn
      rw [HP.out, List.take_of_length_le (by rw [HL.out]; omega)] at hown
      exact ⟨_, _, rfl, hown, hb⟩

theorem reverse_drop_succ (L : List Int) (k : Nat) (x : Int) (h : k < L.length) (hx : L[L.length - 1 - k]? = some x) : (L.drop (L.length - (k + 1))).reverse = (L.drop (L.length - k)).reverse ++ [x] := by
  have e : L.length - (k + 1) = L.length - 1 - k := by omega
  have hlt : L.length - 1 - k < L.length := by omega
  rw [e, List.drop_eq_getElem_cons hlt, List.reverse_cons]
  have : L.length - 1 - k + 1 = L.length - k := by omega
  rw [this]
  rw [List.getElem?_eq_getElem hlt] at hx
  rw [Option.some.inj hx]

set_option maxHeartbeats 400000 in
theorem ref_reverse (A : Option Addr) (n c : Nat) (L : List Int) (w : World) (hA : Ints w A n L) :
    Calls Tryd.prog 44 #[.slice A n c] w fun e w' => ∃ A' c', e = .returned (.slice A' n c') ∧ Own w' w.heap.size A' n c' L.reverse ∧ Below w.heap.size w w' := by
  have HL := Lib.hid hA.len
  have hle := hA.le
  go_enter Tryd.func44, Tryd.ntmps44
  go_wp2_with fail
  go_loopw [3, 4] (fun v i wr => ∃ (k : Nat) (B : Option Addr) (d : Nat) (P : List Int), k ≤ n ∧ i = .int .i64 ((n : Int) - 1 - k) ∧ v = .slice B k d ∧ Own wr w.heap.size B k d P ∧ Below w.heap.size w wr ∧ Hid (P = (L.drop (n - k)).reverse)) (fun _ i _ => (intOf i + 1).toNat)
  case atStart => exact ⟨0, none, 0, [], Nat.zero_le _, by go_num, rfl, Own.nil _ _, Below.refl _ _, by unfold Hid; rw [List.drop_of_length_le (by rw [HL.out]; omega)]; rfl⟩
  case round =>
    obtain ⟨k, B, d, P, hk, rfl, rfl, hown, hb, HP⟩ := hrel
    by_cases hlt : k < n
    · obtain ⟨j, hj⟩ : ∃ j : Nat, (n : Int) - 1 - k = j := ⟨n - 1 - k, by omega⟩
      obtain ⟨ad, x, rfl, hx, hx1, hx2, hc⟩ := (hA.below hb).at_ (show j < n by omega)
      have HJ := Lib.hid hj
      rw [hj]
      have hj2 : (j : Int) + k + 1 ≤ n := by omega
      have hj3 : (n : Int) ≤ j + k + 1 := by omega
      clear hj
      go_wp2_with (at_builtin; refine app1 rfl _ _ rfl (hown.alloc _) x rfl rfl ?c1 ?c2 (by omega) ?c3 ?_)
      case c1 => rw [World.cell?_alloc_at _ _ _ _ rfl]; rfl
      case c2 => unfold I64; omega
      case c3 => have := hb.size; simp; omega
      intro B' d' w1 hown' hb' _ _
      have hbw := (hb.alloc hb.size (.cells #[.int .i64 x] 3)).trans hb'
      have HP' : Hid (P ++ [x] = (L.drop (n - (k + 1))).reverse) := by
        have hl := HL.out
        unfold Hid; subst hl; rw [HP.out]
        exact (reverse_drop_succ L k x (by omega) (by rw [← hx.out]; congr 1; omega)).symm
      clear hown hb hb' hc HP
      go_wp2_with fail
      go_roundw
      case rel => exact ⟨k + 1, B', d', _, by omega, by go_num, rfl, hown', hbw, HP'⟩
      case measure => simp [intOf] <;> omega
    · go_wp2_with fail
      go_ret
      have hkn : k = n := by omega
      subst hkn
      rw [HP.out, Nat.sub_self, List.drop_zero] at hown
      exact ⟨_, _, rfl, hown, hb⟩

/-- ref.Drop. -/
def dropG (f x : Int) : Int := if f ≤ x then x - 1 else x
set_option maxHeartbeats 400000 in
theorem ref_drop (f : Int) (A : Option Addr) (n c : Nat) (L : List Int) (w : World) (hA : Ints w A n L) (hL : In40 L) :
    Calls Tryd.prog 30 #[.slice A n c, .int .i64 f] w fun e w' => ∃ A' c', e = .returned (.slice A' n c') ∧ Own w' w.heap.size A' n c' (L.map (dropG f)) ∧ Below w.heap.size w w' := by
  have HL := Lib.hid hA.len
  have hle := hA.le
  go_enter Tryd.func30, Tryd.ntmps30
  go_wp2_with fail
  go_loopw [5, 6] (fun v i wr => ∃ (k : Nat) (B : Option Addr) (d : Nat) (P : List Int), k ≤ n ∧ i = .int .i64 k ∧ v = .slice B k d ∧ Own wr w.heap.size B k d P ∧ Below w.heap.size w wr ∧ Hid (P = (L.take k).map (dropG f))) (fun _ i _ => n - (intOf i).toNat)
  case atStart => exact ⟨0, none, 0, [], Nat.zero_le _, rfl, rfl, Own.nil _ _, Below.refl _ _, rfl⟩
  case round =>
    obtain ⟨k, B, d, P, hk, rfl, rfl, hown, hb, HP⟩ := hrel
    by_cases hlt : k < n
    · obtain ⟨ad, x, rfl, hx, hx1, hx2, hc⟩ := (hA.below hb).at_ hlt
      obtain ⟨hx3, hx4⟩ := hL.at_ hx.out
      have hsz := hb.size
      by_cases hfx : f ≤ x
      · go_wp2_with (at_builtin; refine app1 rfl _ _ rfl (hown.alloc _) (x - 1) rfl rfl ?c1 ?c2 (by omega) ?c3 ?_)
        case c1 => rw [World.cell?_alloc_at _ _ _ _ rfl]; rfl
        case c2 => unfold I64; omega
        case c3 => simp; omega
        intro B' d' w1 hown' hb' _ _
        have hbw := (hb.alloc hb.size (.cells #[.int .i64 (x - 1)] 3)).trans hb'
        have HP' : Hid (P ++ [x - 1] = (L.take (k + 1)).map (dropG f)) := by unfold Hid; rw [map_take_succ _ L k x hx.out, HP.out]; unfold dropG; rw [if_pos hfx]
        clear hown hb hb' hc HP
        go_wp2_with fail
        go_roundw
        case rel => exact ⟨k + 1, B', d', _, by omega, by go_num, rfl, hown', hbw, HP'⟩
        case measure => simp [intOf] <;> omega
      · go_wp2_with (at_builtin; refine app1 rfl _ _ rfl (hown.alloc _) x rfl rfl (by rw [World.cell?_alloc_at _ _ _ _ rfl]; rfl) ?d2 (by omega) ?d3 ?_)
        case d2 => unfold I64; omega
        case d3 => first | omega | (simp; omega)
        intro B' d' w1 hown' hb' _ _
        have hbw := (hb.alloc hb.size (.cells #[.int .i64 x] 3)).trans hb'
        have HP' : Hid (P ++ [x] = (L.take (k + 1)).map (dropG f)) := by unfold Hid; rw [map_take_succ _ L k x hx.out, HP.out]; unfold dropG; rw [if_neg (by omega)]
        clear hown hb hb' hc HP
        go_wp2_with fail
        go_roundw
        case rel => exact ⟨k + 1, B', d', _, by omega, by go_num, rfl, hown', hbw, HP'⟩
        case measure => simp [intOf] <;> omega
    · go_wp2_with fail
      go_ret
      have hkn : k = n := by omega
      subst hkn
      rw [HP.out, List.take_of_length_le (by rw [HL.out]; omega)] at hown
      exact ⟨_, _, rfl, hown, hb⟩
end Go.Proofs.YtnlggiimgihmcaaDoor
