/-
  Contracts: ref.Reduce. Conditions: the slices read as lists of ints.
-/
import Derived.Test.YtpdkonpnhalecaaDoorP9
import Derived.Test.YtpdkonpnhalecaaDoorQ0
namespace Go.Proofs.YtpdkonpnhalecaaDoor
open Go.RowKit

theorem Own.to {w : World} {base : Nat} {A : Option Addr} {n c i : Nat} {L : List Int} (h : Own w base A n c L) (hi : i ≤ n) : Own w base A i c (L.take i) := by
  have hl := h.len
  refine ⟨⟨by simp [hl]; omega, ?_⟩, by simp [hl]; omega, by have := h.le; omega, fun x hx => h.fits x (List.mem_of_mem_take hx)⟩
  rcases h.row.2 with ⟨h', h0⟩ | ⟨g, cap, cur, h', hb, hg, hnc, hcm, hcs, htake⟩
  · simp only [Value.slice.injEq] at h'
    obtain ⟨rfl, rfl, rfl⟩ := h'
    obtain rfl : i = 0 := by omega
    exact .inl ⟨rfl, rfl⟩
  · simp only [Value.slice.injEq, true_and] at h'
    obtain ⟨rfl, rfl⟩ := h'
    refine .inr ⟨g, c, cur, rfl, hb, hg, by omega, hcm, hcs, ?_⟩
    rw [List.map_take, ← htake, List.take_take]
    congr 1
    omega

set_option maxHeartbeats 1600000 in
theorem ref_reduce (A : Option Addr) (n c : Nat) (L : List Int) (w : World) (hA : Ints w A n L) (he : n % 2 = 0) :
    Calls Tryd.prog 57 #[.slice A n c] w fun e w' => ∃ A' m c' R, e = .returned (.slice A' m c') ∧ Ints w' A' m R ∧ Below w.heap.size w w' ∧ Hid (Eqv L R) ∧ Hid (NoneTo (eqNext R) R.length) ∧ m ≤ n ∧ m ≤ c' := by
  have hle := hA.le
  have HL := Lib.hid hA.len
  go_enter Tryd.func57, Tryd.ntmps57
  go_wp2_with (at_builtin; refine appS rfl _ _ rfl rfl (Own.nil _ w.heap.size) hA rfl rfl n (by omega) hle (Nat.le_refl _) ?_)
  intro A1 c1 w1 hown hb1 _ _
  have hI1 := hown.ints
  have hc1 := hown.cap
  clear hown
  go_wp2_with fail
  go_loopw [3] (fun v wr => ∃ (m : Nat) (B : Option Addr) (d : Nat) (P : List Int), m ≤ n ∧ m ≤ d ∧ m % 2 = 0 ∧ v = .slice B m d ∧ Ints wr B m P ∧ Below w.heap.size w wr ∧ Hid (Eqv L P)) (fun v _ => lenOf v)
  case atStart => exact ⟨n, A1, c1, L, Nat.le_refl _, hc1, he, rfl, by simpa using hI1, hb1, Eqv.refl _⟩
  case round =>
    clear hI1 hb1 hc1
    obtain ⟨m, B, d, P, hmn, hmd, hm2, rfl, hI, hb, HE⟩ := hrel
    by_cases hm0 : 0 < m
    · go_wp2_with fail
      refine (ref_pair _ _ _ _ _ hI).mono ?_
      rintro e w2 ⟨rfl, hd⟩
      have hI2 := hI.drawn hd
      have hb2 := hb.trans (hd.below _)
      have HP := Lib.hid hI.len
      clear hI hb hd
      rcases firstI_cases (eqNext P) P.length with ⟨hp, hno⟩ | ⟨k, hk, hp, hno, hyes⟩
      · have hpi : pairI P = -1 := hp
        rw [hpi]
        have HN := Lib.hid hno
        clear hp hpi hno
        go_wp2_with fail
        go_ret
        exact ⟨B, m, d, P, rfl, hI2, hb2, HE, HN, hmn, hmd⟩
      · have hpi : pairI P = k := hp
        rw [hpi]
        have hkm : k < m := by rw [← HP.out]; exact hk
        have he' : P.length % 2 = 0 := by rw [HP.out]; exact hm2
        rcases Nat.mod_two_eq_zero_or_one k with h2 | h2
        · have HS := Lib.hid (redStep_even he' hk hyes h2)
          have h2' : (k : Int) % 2 = 0 := by omega
          have hm2' : 2 ≤ m := by omega
          clear hp hpi hno hyes hk he'
          go_wp2_with fail
          refine (ref_rotated k _ _ _ _ _ hI2 (by omega) hmd).mono ?_
          rintro e w3 ⟨A3, c3, rfl, hown, hb3⟩
          have hI3 := hown.ints
          have hc3 := hown.cap
          have hb4 := below_chain hb2 hb3 hb2.size
          have q1 : (2 : Int) ≤ (m : Int) := by omega
          have q2 : (m : Int) ≤ (c3 : Int) := by omega
          obtain ⟨g3, rfl, _, _⟩ := hown.form (by omega)
          clear hown hb2 hb3 hI2
          go_wp2_with fail
          go_roundw
          case rel =>
            have hI4 := Ints.from (c := c3) hI3 (i := 2) hm2' hc3
            refine ⟨m - 2, _, c3 - 2, _, by omega, by omega, by omega, ?_, hI4, hb4, Lib.hid (HE.out.trans HS.out)⟩
            simp [Addr.add]
          case measure => simp [lenOf]; omega
        · obtain ⟨j, hj⟩ : ∃ j, k = j + 1 := ⟨k - 1, by omega⟩
          have hst := redStep_odd (j := j) he' (by rw [← hj]; exact hk) (by rw [← hj]; exact hno) (by rw [← hj]; exact hyes) (by omega)
          have h4 : 4 ≤ m := by rw [← HP.out]; exact hst.1
          have HS := Lib.hid hst.2
          have h2' : (k : Int) % 2 = 1 := by omega
          have HJ := Lib.hid (show (k : Int) - 1 = (j : Int) by omega)
          have hjm : j ≤ m := by omega
          clear hj
          clear hp hpi hno hyes hk he' hst
          go_wp2_with fail
          rw [HJ.out]
          refine (ref_rotated j _ _ _ _ _ hI2 hjm hmd).mono ?_
          rintro e w3 ⟨A3, c3, rfl, hown, hb3⟩
          have hI3 := hown.ints
          have hc3 := hown.cap
          have hb4 := below_chain hb2 hb3 hb2.size
          have q1 : (3 : Int) ≤ (m : Int) := by omega
          have q2 : (m : Int) ≤ (c3 : Int) := by omega
          clear hI2
          have h3m : 3 ≤ m := by omega
          have q3 : (1 : Int) ≤ (c3 : Int) := by omega
          have q4 : (3 : Int) ≤ (c3 : Int) := by omega
          have q5 : (0 : Int) ≤ (m : Int) := by omega
          have hc33 : ¬c3 = 3 := by omega
          obtain ⟨g3, rfl, _, _⟩ := hown.form (by omega)
          have hI5 := Ints.from (c := c3) hI3 h3m hc3
          rw [if_neg hc33] at hI5
          have h1m : 1 ≤ m := by omega
          have hmN : m ≤ 17592186044416 := by omega
          go_wp2_with fail
          go_region_held3 (fun w' => Below w2.heap.size w2 w') (first | exact hb3.drew | exact Below.trans (by assumption) (by assumption))
            (first
              | ((refine stepS rfl (.tmp 27) (.tmp 29) (by rfl) (by rfl) (hown.drew.to h1m) (hI5.drewN 1) (by rfl) (by rfl) (m - 2) (by omega) (by omega) hb3.size ?_; intro A4 c4 w4 hown4 hb5 hg4 hl4)))
          have hI6 := hown4.ints
          have hc6 := hown4.cap
          have hb6 : Below w.heap.size w w4 := below_chain hb2 (hb3.drew.trans hb5) hb2.size
          clear hb2 hb3 hb4 hb5 hown hown4 hg4 hl4 hI3 hI5
          go_wp2_with fail
          go_roundw
          case rel => exact ⟨m - 2, A4, c4, _, by omega, hc6, by omega, rfl, hI6, hb6, Lib.hid (HE.out.trans HS.out)⟩
          case measure => simp [lenOf]; omega
    · go_wp2_with fail
      go_ret
      have hm : m = 0 := by omega
      subst hm
      exact ⟨B, 0, d, P, rfl, hI, hb, HE, Lib.hid (by rw [hI.len]; exact NoneTo.zero _), by omega, by omega⟩
end Go.Proofs.YtpdkonpnhalecaaDoor
