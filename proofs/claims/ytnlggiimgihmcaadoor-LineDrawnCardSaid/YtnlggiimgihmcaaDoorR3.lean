/-
  Contract: ref.try, ref.Ranks. Conditions: the slices read.
-/
import Derived.Test.YtnlggiimgihmcaaDoorR2
namespace Go.Proofs.YtnlggiimgihmcaaDoor
open Go.RowKit
/-- What ref.try returns: ranks that draw the word, or there are none that begin so. -/
def GivesT (w : World) (L R : List Int) (e : Ending) (w' : World) : Prop :=
  ∃ b A' n' c', e = .returned (.tuple #[.slice A' n' c', .bool b]) ∧ (b = true → ∃ S, Ints w' A' n' S ∧ DrawnR L S) ∧ (b = false → ∀ S, R <+: S → ¬DrawnR L S) ∧ Below w.heap.size w w'
theorem lat_append_left {R T : List Int} {j : Nat} (h : j < R.length) : lat (R ++ T) j = lat R j := by
  unfold lat
  rw [List.getElem?_append_left h]
theorem prefix_lat {R S : List Int} (h : R <+: S) {j : Nat} (hj : j < R.length) : lat S j = lat R j := by
  obtain ⟨T, rfl⟩ := h
  exact lat_append_left hj
theorem countTo_two {p : Nat → Bool} {n i j : Nat} (hij : i < j) (hj : j < n) (hi : p i = true) (hjp : p j = true) : 2 ≤ countTo p n := by
  have one : ∀ k m, k < m → p k = true → 1 ≤ countTo p m := by
    intro k m
    induction m with
    | zero => intro h; omega
    | succ m ih =>
      intro h hk
      by_cases e : k = m
      · subst e; rw [countTo_yes hk]; omega
      · have := ih (by omega) hk
        unfold countTo; omega
  induction n with
  | zero => omega
  | succ n ih =>
    by_cases e : j = n
    · subst e
      have := one i j hij hi
      rw [countTo_yes hjp]; omega
    · have := ih (by omega)
      unfold countTo; omega
/-- A number is taken already. -/
def takenB (L R : List Int) (m : Nat) (r : Int) (j : Nat) : Bool := !(decide (lat L j = lat L m) && decide (lat R j = r))
theorem not_taken {L R S : List Int} {m j : Nat} {r : Int} (hm : R.length = m) (hmL : m < L.length) (hp : R <+: S) (hS : DrawnR L S) (hj : j < m) (ht : takenB L R m r j = false) : lat S m ≠ r := by
  intro e
  unfold takenB at ht
  simp at ht
  have h1 := (hS.2.1 m hmL).2.2
  unfold sameN at h1
  have h2 : 2 ≤ countTo (bothB L S m) L.length := by
    refine countTo_two hj hmL ?_ ?_
    · unfold bothB
      rw [ht.1, prefix_lat hp (by omega), ht.2, e]; simp
    · unfold bothB; simp
  omega
theorem prefix_snoc {R S : List Int} {r : Int} (hp : R <+: S) (hl : R.length < S.length) (h : lat S R.length = r) : R ++ [r] <+: S := by
  obtain ⟨T, rfl⟩ := hp
  cases T with
  | nil => simp at hl
  | cons t T =>
    have : lat (R ++ t :: T) R.length = t := by unfold lat; simp
    rw [this] at h
    subst h
    exact ⟨T, by simp⟩

set_option maxHeartbeats 3200000 in
set_option maxRecDepth 100000 in
theorem ref_try (A : Option Addr) (n c : Nat) (L : List Int) (hle : n ≤ 1000000) : ∀ (f : Nat) (B : Option Addr) (m d : Nat) (R : List Int) (w : World), Ints w A n L → Ints w B m R → m + f = n →
    Calls Tryd.prog 64 #[.slice A n c, .slice B m d] w (GivesT w L R) := by
  intro f
  induction f with
  | zero =>
    intro B m d R w hA hB hmf
    obtain rfl : m = n := by omega
    have HL := Lib.hid hA.len
    have HR := Lib.hid hB.len
    go_enter Tryd.func64, Tryd.ntmps64
    go_wp2_with fail
    refine (ref_drawn _ _ _ _ _ _ _ _ _ hA hB).mono ?_
    rintro e w1 ⟨b, rfl, hb, hd⟩
    have HB := Lib.hid hb
    have hB1 := hB.drawn hd
    have hbw := hd.below w.heap.size
    clear hb hd
    go_wp2_with fail
    go_ret2
    refine ⟨b, B, m, d, rfl, fun h => ⟨R, hB1, HB.out.1 h⟩, fun h S hp hS => ?_, hbw⟩
    have : S = R := by
      obtain ⟨T, rfl⟩ := hp
      have h1 := hS.1
      rw [List.length_append, HR.out, HL.out] at h1
      have : T = [] := List.eq_nil_of_length_eq_zero (by omega)
      subst this
      simp
    subst this
    have := HB.out.2 hS
    rw [h] at this
    cases this
  | succ f ih =>
    intro B m d R w hA hB hmf
    have IH := Lib.hid ih
    clear ih
    have HL := Lib.hid hA.len
    have HR := Lib.hid hB.len
    have hmn : m < n := by omega
    have hne : ((m : Int) == (n : Int)) = false := by simp; omega
    have HMF := Lib.hid hmf
    clear hmf
    go_enter Tryd.func64, Tryd.ntmps64
    go_wp2_with fail
    go_loopw [7, 8] (fun a j wr => ∃ t : Nat, t ≤ n ∧ j = .int .i64 t ∧ a = .int .i64 (countTo (gateB L m) t : Nat) ∧ Drawn w wr) (fun _ j _ => n - (intOf j).toNat)
    case atStart => exact ⟨0, Nat.zero_le _, rfl, rfl, Drawn.refl _⟩
    case round =>
      obtain ⟨t, ht, rfl, rfl, hd⟩ := hrel
      have hAr := hA.drawn hd
      have hBr := hB.drawn hd
      have HD := Lib.hid hd
      clear hd
      have hg1 := countTo_le (gateB L m) t
      have hy1 := Lib.hid (countTo_yes (p := gateB L m) (n := t))
      have hn1 := Lib.hid (countTo_no (p := gateB L m) (n := t))
      have HM : Hid (n ≤ t → countTo (gateB L m) t = manyN L m) := fun h => by unfold manyN; rw [HL.out]; congr 1; omega
      obtain ⟨a, ha⟩ : ∃ a, countTo (gateB L m) t = a := ⟨_, rfl⟩
      rw [ha] at hg1 hy1 hn1 HM ⊢
      clear ha
      by_cases hlt : t < n
      · obtain ⟨ad, x, rfl, hx, hx1, hx2, hcx⟩ := hAr.at_ hmn
        obtain ⟨y, hy, hy3, hy4, hcy⟩ := hAr.also hlt
        have l1 := lat_of hx.out
        have l2 := lat_of hy.out
        by_cases hxy : y = x
        · subst hxy
          have g1 : Hid (gateB L m t = true) := by unfold Hid gateB; rw [l1, l2]; simp
          clear l1 l2
          go_wp2_with fail
          go_quiet (fail)
          go_wp2_with fail
          go_roundw
          case rel => exact ⟨t + 1, by omega, by go_num, by rw [hy1.out g1.out]; go_num, HD.out.drewN _⟩
          case measure => simp [intOf]; omega
        · have g1 : Hid (gateB L m t = false) := by unfold Hid gateB; rw [l1, l2]; simp [hxy]
          have hxy' : (y == x) = false := by simpa using hxy
          clear l1 l2 hxy
          go_wp2_with fail
          go_quiet (fail)
          go_wp2_with fail
          go_roundw
          case rel => exact ⟨t + 1, by omega, by go_num, by rw [hn1.out g1.out], HD.out.drewN _⟩
          case measure => simp [intOf]; omega
      · have hma := Lib.hid (HM.out (by omega))
        clear HM hy1 hn1
        have hbw0 := Lib.hid (HD.out.below w.heap.size)
        go_wp2_with fail
        go_loopw [9] (fun v wx => ∃ r : Nat, 1 ≤ r ∧ r ≤ a + 1 ∧ v = .int .i64 r ∧ Below w.heap.size w wx ∧ Hid (∀ S, R <+: S → DrawnR L S → (r : Int) ≤ lat S m)) (fun v _ => (a + 2) - (intOf v).toNat)
        case atStart => exact ⟨1, Nat.le_refl _, by omega, rfl, hbw0.out, Lib.hid (fun S hp hS => (hS.2.1 m (by rw [HL.out]; exact hmn)).1)⟩
        case round =>
          obtain ⟨r, hr1, hr2, rfl, hb, HS⟩ := hrel
          have hAx := hA.below hb
          have hBx := hB.below hb
          have HBW := Lib.hid hb
          clear hAr hBr hbw0 hb
          by_cases hra : r ≤ a
          · go_wp2_with fail
            obtain ⟨V, hV⟩ : ∃ V, V = wr := ⟨_, rfl⟩
            rw [← hV] at hAx hBx
            rw [← hV]
            have HBV : Hid (Below w.heap.size w V) := by rw [hV]; exact HBW.out
            clear HBW hV
            go_loopw [10, 11] (fun v j wr => ∃ t : Nat, t ≤ m ∧ j = .int .i64 t ∧ v = .bool (allTo (takenB L R m r) t) ∧ Drawn V wr) (fun _ j _ => m - (intOf j).toNat)
            case atStart => exact ⟨0, Nat.zero_le _, rfl, rfl, Drawn.refl _⟩
            case round =>
              obtain ⟨t, ht, rfl, rfl, hd⟩ := hrel
              have hAt := hAx.drawn hd
              have hBt := hBx.drawn hd
              have HD2 := Lib.hid hd
              clear hd
              have hsc := Lib.hid (allTo_succ (takenB L R m r) t)
              obtain ⟨fb, hfb⟩ : ∃ fb, allTo (takenB L R m r) t = fb := ⟨_, rfl⟩
              rw [hfb] at hsc ⊢
              have HFB := Lib.hid hfb
              clear hfb
              by_cases hlt2 : t < m
              · cases fb with
                | false =>
                  go_wp2_with fail
                  go_quiet (fail)
                  go_wp2_with fail
                  go_roundw
                  case rel => exact ⟨t + 1, by omega, by go_num, by rw [hsc.out]; rfl, HD2.out.drewN _⟩
                  case measure => simp [intOf]; omega
                | true =>
                  obtain ⟨ad, x, rfl, hx, hx1, hx2, hcx⟩ := hAt.at_ hmn
                  obtain ⟨y, hy, hy3, hy4, hcy⟩ := hAt.also (show t < n by omega)
                  obtain ⟨bd, s, rfl, hs, hs1, hs2, hcs⟩ := hBt.at_ hlt2
                  have l1 := lat_of hx.out
                  have l2 := lat_of hy.out
                  have l3 := lat_of hs.out
                  by_cases hxy : y = x
                  · subst hxy
                    by_cases hsr : s = (r : Int)
                    · have g1 : Hid (takenB L R m r t = false) := by unfold Hid takenB; rw [l1, l2, l3, hsr]; simp
                      have e1 : (s == (r : Int)) = true := by simpa using hsr
                      clear l1 l2 l3 hsr
                      go_wp2_with fail
                      go_quiet (fail)
                      go_wp2_with fail
                      go_roundw
                      case rel => exact ⟨t + 1, by omega, by go_num, by rw [hsc.out, g1.out]; rfl, HD2.out.drewN _⟩
                      case measure => simp [intOf]; omega
                    · have g1 : Hid (takenB L R m r t = true) := by unfold Hid takenB; rw [l1, l2, l3]; simp [hsr]
                      have e1 : (s == (r : Int)) = false := by simpa using hsr
                      clear l1 l2 l3 hsr
                      go_wp2_with fail
                      go_quiet (fail)
                      go_wp2_with fail
                      go_roundw
                      case rel => exact ⟨t + 1, by omega, by go_num, by rw [hsc.out, g1.out]; rfl, HD2.out.drewN _⟩
                      case measure => simp [intOf]; omega
                  · have g1 : Hid (takenB L R m r t = true) := by unfold Hid takenB; rw [l1, l2]; simp [hxy]
                    have e1 : (y == x) = false := by simpa using hxy
                    clear l1 l2 l3 hxy
                    go_wp2_with fail
                    go_quiet (fail)
                    go_wp2_with fail
                    go_roundw
                    case rel => exact ⟨t + 1, by omega, by go_num, by rw [hsc.out, g1.out]; rfl, HD2.out.drewN _⟩
                    case measure => simp [intOf]; omega
              · have hfin : Hid (allTo (takenB L R m r) m = fb) := by unfold Hid; rw [← HFB.out]; congr 1; omega
                have hbw := Lib.hid (below_chain HBV.out (HD2.out.below V.heap.size) HBV.out.size)
                clear hsc HFB
                cases fb with
                | false =>
                  have hnext : Hid (∀ S, R <+: S → DrawnR L S → ((r + 1 : Nat) : Int) ≤ lat S m) := fun S hp hS => by
                    have h1 := HS.out S hp hS
                    have h2 : ∃ j, j < m ∧ takenB L R m r j = false := by
                      apply Classical.byContradiction
                      intro hno
                      have : allTo (takenB L R m r) m = true := allTo_iff.2 fun j hj => by
                        cases hq : takenB L R m r j with
                        | true => rfl
                        | false => exact absurd ⟨j, hj, hq⟩ hno
                      rw [hfin.out] at this
                      cases this
                    obtain ⟨j, hj, hq⟩ := h2
                    have h3 := not_taken HR.out (by rw [HL.out]; exact hmn) hp hS hj hq
                    omega
                  go_wp2_with fail
                  go_roundw
                  case rel => exact ⟨r + 1, by omega, by omega, by go_num, hbw.out, hnext⟩
                  case measure => simp [intOf]; omega
                | true =>
                  have hsz := hbw.out.size
                  go_wp2_with (first | (at_builtin; refine appS rfl _ _ rfl rfl (Own.nil _ w.heap.size) hBt rfl rfl m (by omega) (by omega) hsz ?_))
                  intro A5 c5 w5 hown5 hb5 _ _
                  have hsz5 := Nat.le_trans hsz hb5.size
                  have hb6 := hbw.out.trans hb5
                  clear hb5
                  go_wp2_with (first | (at_builtin; refine app1n rfl _ _ rfl hown5 (r : Int) rfl rfl (by unfold I64; omega) (by omega) hsz5 ?_))
                  intro A6 c6 w6 hown6 hb7 _ _
                  have hb8 := hb6.trans hb7
                  have hA6 := hA.below hb8
                  have hI6 := hown6.ints
                  clear hown5 hown6 hb6 hb7 hAt hBt hAx hBx
                  go_wp2_with fail
                  refine (IH.out _ _ _ _ _ hA6 hI6 (by have := HMF.out; omega)).mono ?_
                  rintro e w7 ⟨b, A7, n7, c7, rfl, hbt, hbf, hb9⟩
                  have hb10 := Lib.hid (below_chain hb8 hb9 hb8.size)
                  have HBT := Lib.hid hbt
                  have HBF := Lib.hid hbf
                  clear hb8 hb9 hbt hbf hA6 hI6
                  cases b with
                  | true =>
                    go_wp2_with fail
                    go_ret2
                    exact ⟨true, A7, n7, c7, rfl, fun _ => HBT.out (by simp), fun h => (by cases h), hb10.out⟩
                  | false =>
                    have hnext : Hid (∀ S, R <+: S → DrawnR L S → ((r + 1 : Nat) : Int) ≤ lat S m) := fun S hp hS => by
                      have h1 := HS.out S hp hS
                      have h2 : lat S m ≠ (r : Int) := fun e => by
                        refine HBF.out (by simp) S ?_ hS
                        exact prefix_snoc hp (by rw [hS.1, HL.out, HR.out]; exact hmn) (by rw [HR.out]; exact e)
                      omega
                    go_wp2_with fail
                    go_roundw
                    case rel => exact ⟨r + 1, by omega, by omega, by go_num, hb10.out, hnext⟩
                    case measure => simp [intOf]; omega
          · go_wp2_with fail
            go_ret2
            refine ⟨false, none, 0, 0, rfl, fun h => (by cases h), fun _ S hp hS => ?_, HBW.out⟩
            have h1 := HS.out S hp hS
            have h2 := (hS.2.1 m (by rw [HL.out]; exact hmn)).2.1
            have := hma.out
            omega
theorem ref_Ranks (A : Option Addr) (n c : Nat) (L : List Int) (w : World) (hA : Ints w A n L) (hle : n ≤ 1000000) :
    Calls Tryd.prog 36 #[.slice A n c] w (GivesT w L []) := by
  go_enter Tryd.func36, Tryd.ntmps36
  go_wp2_with fail
  refine (ref_try A n c L hle n none 0 0 [] _ hA (Ints.nil _ _) (by omega)).mono ?_
  rintro e w1 ⟨b, A1, n1, c1, rfl, h1, h2, h3⟩
  have H1 := Lib.hid h1
  have H2 := Lib.hid h2
  clear h1 h2
  go_wp2_with fail
  go_ret2
  exact ⟨b, A1, n1, c1, rfl, H1.out, H2.out, h3⟩
end Go.Proofs.YtnlggiimgihmcaaDoor
