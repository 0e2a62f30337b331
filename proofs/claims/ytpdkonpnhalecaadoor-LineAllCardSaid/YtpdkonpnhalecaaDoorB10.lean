/-
  Contracts: line.Forget, line.Same. Conditions: the slices read as lists of ints.
-/
import Derived.Test.YtpdkonpnhalecaaDoorB9
namespace Go.Proofs.YtpdkonpnhalecaaDoor
open Go.RowKit

/-- A list that is half changed. -/
def halfL (f : Int → Int) (L : List Int) (k : Nat) : List Int := (L.take k).map f ++ L.drop k
theorem halfL_get {f : Int → Int} {L : List Int} {k : Nat} (hk : k ≤ L.length) : (halfL f L k)[k]? = L[k]? := by
  unfold halfL
  rw [List.getElem?_append_right (by simp; omega), List.length_map, List.length_take, List.getElem?_drop]
  congr 1; omega
theorem halfL_succ {f : Int → Int} {L : List Int} {k : Nat} {x : Int} (hx : L[k]? = some x) : (halfL f L k).set k (f x) = halfL f L (k + 1) := by
  obtain ⟨hk, e⟩ := List.getElem?_eq_some_iff.1 hx
  unfold halfL
  rw [List.drop_eq_getElem_cons hk, e, List.take_add_one, hx]
  rw [List.set_append_right _ _ (by simp; omega), List.length_map, List.length_take]
  rw [show k - min k L.length = 0 by omega]
  simp
theorem halfL_same {f : Int → Int} {L : List Int} {k : Nat} {x : Int} (hx : L[k]? = some x) (hf : f x = x) : halfL f L k = halfL f L (k + 1) := by
  obtain ⟨hk, e⟩ := List.getElem?_eq_some_iff.1 hx
  unfold halfL
  rw [List.drop_eq_getElem_cons hk, e, List.take_add_one, hx]
  simp [hf]
theorem halfL_end {f : Int → Int} {L : List Int} {k : Nat} (hk : L.length ≤ k) : halfL f L k = L.map f := by
  unfold halfL
  rw [List.take_of_length_le hk, List.drop_of_length_le hk, List.append_nil]

/-- line.Forget's error. -/
def errG (k : Int) (L : List Int) (f : Int) : Int := if errF k L = 0 then (if 1 ≤ f ∧ f ≤ k then 0 else 2) else errF k L
theorem in40_drop {L : List Int} {f : Int} (h : In40 L) (hf : 1 ≤ f) : In40 (L.map (dropG f)) := by
  intro x hx
  obtain ⟨y, hy, rfl⟩ := List.mem_map.1 hx
  have := h y hy
  unfold dropG; split <;> omega

set_option maxHeartbeats 800000 in
theorem line_Forget (K f : Int) (A : Option Addr) (n c : Nat) (L : List Int) (w : World) (hA : Ints w A n L) :
    Calls Tryd.prog 19 #[.int .i64 K, .slice A n c, .int .i64 f] w (Gives w (okL (errG K L f) (normalL (L.map (dropG f)))) (errG K L f)) := by
  have hle := hA.le
  have HL := Lib.hid hA.len
  by_cases h : errF K L = 0
  · have hv := of_errF h
    obtain ⟨hK1, hK2⟩ := k_of_validB hv
    have h40 := Lib.hid (in40_of_wordB (wordB_of_validB hv))
    have hn400 : n ≤ 400 := by rw [← HL.out]; exact (len_of_wordB (wordB_of_validB hv)).1
    clear hv
    by_cases hf1 : 1 ≤ f
    · by_cases hf2 : f ≤ K
      · have he : errG K L f = 0 := by unfold errG; rw [if_pos h, if_pos ⟨hf1, hf2⟩]
        rw [okL_yes he, he]
        clear he
        go_enter Tryd.func19, Tryd.ntmps19
        go_wp2_with (first | (go_at_call 34; refine (line_checkFor _ _ _ _ _ _ hA).mono ?_; rintro e w' ⟨rfl, rfl⟩))
        refine (slices_clone _ _ _ _ _ hA).mono ?_
        rintro e w1 ⟨A1, c1, rfl, hown, hb⟩
        clear h
        go_wp2_with fail
        go_loopw [29] (fun i wr => ∃ (k : Nat) (P : List Int), k ≤ n ∧ i = .int .i64 k ∧ Own wr w'.heap.size A1 n c1 P ∧ Below w'.heap.size w' wr ∧ Hid (P = halfL (dropG f) L k)) (fun i _ => n - (intOf i).toNat)
        case atStart => exact ⟨0, _, Nat.zero_le _, rfl, hown, hb, by unfold Hid halfL; simp⟩
        case round =>
          clear hown hb
          obtain ⟨k, P, hk, rfl, hown, hb, HP⟩ := hrel
          by_cases hlt : k < n
          · obtain ⟨g, rfl, hg1, hg2⟩ := hown.form (by omega)
            have hx : L[k]? = some (L[k]'(by rw [HL.out]; exact hlt)) := List.getElem?_eq_getElem _
            obtain ⟨x, hxe⟩ : ∃ x, x = L[k]'(by rw [HL.out]; exact hlt) := ⟨_, rfl⟩
            rw [← hxe] at hx
            have hPx : P[k]? = some x := by rw [HP.out, halfL_get (by rw [HL.out]; exact hk), hx]
            have hc := hown.cell hPx
            have hfr := hown.free k
            obtain ⟨hx3, hx4⟩ := h40.out.at_ hx
            have HX := Lib.hid hx
            clear hx hxe hPx
            by_cases hfx : f ≤ x
            · have hst := hown.stored k (x := x - 1) ⟨by omega, by omega⟩
              have hbw : Below w'.heap.size w' (wr.setCell ⟨g, k, none⟩ (.int .i64 (x - 1))) := hb.setCell hg1 _
              have HP' : Hid (P.set k (x - 1) = halfL (dropG f) L (k + 1)) := by
                unfold Hid; rw [HP.out, ← halfL_succ HX.out]; congr 1; unfold dropG; rw [if_pos hfx]
              clear hown hb HP HX
              go_wp2_with fail
              go_roundw
              case rel => exact ⟨k + 1, _, by omega, by go_num, hst, hbw, HP'⟩
              case measure => simp [intOf]; omega
            · have HP' : Hid (P = halfL (dropG f) L (k + 1)) := by
                unfold Hid; rw [HP.out, halfL_same HX.out (by unfold dropG; rw [if_neg hfx])]
              clear HP HX
              go_wp2_with fail
              go_roundw
              case rel => exact ⟨k + 1, _, by omega, by go_num, hown, hb, HP'⟩
              case measure => simp [intOf]; omega
          · have hkn : k = n := by omega
            subst hkn
            have hfin := HP.out
            rw [halfL_end (by rw [HL.out]; exact Nat.le_refl _)] at hfin
            subst hfin
            have hI := hown.ints
            clear HP
            go_wp2_with fail
            refine (line_normal_ _ _ _ _ _ hI hn400 (in40_drop h40.out hf1)).mono ?_
            rintro e w2 ⟨A2, m2, c2, rfl, hown2, hb2⟩
            have hbw := below_chain hb hb2 hb.size
            have hown3 := hown2.mono hb.size
            clear hown hb hb2 hown2 hI
            go_wp2_with fail
            go_ret2
            exact gives_own hown3 rfl hbw
      · have he : errG K L f = 2 := by unfold errG; rw [if_pos h, if_neg (by omega)]
        rw [okL_no (by rw [he]; decide), he]
        clear he
        go_enter Tryd.func19, Tryd.ntmps19
        go_wp2_with (first | (go_at_call 34; refine (line_checkFor _ _ _ _ _ _ hA).mono ?_; rintro e w' ⟨rfl, rfl⟩))
        go_ret2
        exact gives_nil rfl (Below.refl _ _)
    · have he : errG K L f = 2 := by unfold errG; rw [if_pos h, if_neg (by omega)]
      rw [okL_no (by rw [he]; decide), he]
      clear he
      go_enter Tryd.func19, Tryd.ntmps19
      go_wp2_with (first | (go_at_call 34; refine (line_checkFor _ _ _ _ _ _ hA).mono ?_; rintro e w' ⟨rfl, rfl⟩))
      go_ret2
      exact gives_nil rfl (Below.refl _ _)
  · have he : errG K L f = errF K L := by unfold errG; rw [if_neg h]
    rw [he, okL_no h]
    have hne : (errF K L != 0) = true := by simpa using h
    clear h he
    go_enter Tryd.func19, Tryd.ntmps19
    go_wp2_with (first | (go_at_call 34; refine (line_checkFor _ _ _ _ _ _ hA).mono ?_; rintro e w' ⟨rfl, rfl⟩))
    go_ret2
    exact gives_nil rfl (Below.refl _ _)
theorem many_two {w : World} {A B : Option Addr} {n c m d : Nat} {L M : List Int} {t : TypeId} (hA : Ints w A n L) (hB : Ints w B m M) :
    Many (w.alloc (.cells #[.slice A n c, .slice B m d] t)) ⟨w.heap.size, 0, none⟩ [⟨A, n, c, L⟩, ⟨B, m, d, M⟩] := by
  intro j s hs
  match j, hs with
  | 0, hs =>
    simp only [List.getElem?_cons_zero, Option.some.injEq] at hs
    subst hs
    exact ⟨by rw [Addr.add_lit, World.cell?_alloc_at _ _ _ _ rfl]; rfl, hA.alloc _⟩
  | 1, hs =>
    simp only [List.getElem?_cons_succ, List.getElem?_cons_zero, Option.some.injEq] at hs
    subst hs
    exact ⟨by rw [Addr.add_lit, World.cell?_alloc_at _ _ _ _ rfl]; rfl, hB.alloc _⟩
def errS (L M : List Int) : Int := if errW L = 0 then errW M else errW L
theorem errs_two (A B : Option Addr) (n c m d : Nat) (L M : List Int) : errs [⟨A, n, c, L⟩, ⟨B, m, d, M⟩] = errS L M := by
  unfold errs errS
  simp only
  split
  · exact errs_one _ _ _ _
  · rfl
/-- Whether two words have one normal form. -/
def sameB (L M : List Int) : Bool := normalL L == normalL M

end Go.Proofs.YtpdkonpnhalecaaDoor
