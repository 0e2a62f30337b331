/-
  Contract: line.ranks. Conditions: the slice reads as a word's letters.
-/
import Derived.Test.YtpdkonpnhalecaaDoorC2
import Derived.Test.YtpdkonpnhalecaaDoorP5
import Derived.WalkMore
namespace Go.Proofs.YtpdkonpnhalecaaDoor
open Go.RowKit

/-- Returns ranks and whether they are some. -/
def GivesRB (w : World) (L M : List Int) (p : Prop) (e : Ending) (w' : World) : Prop :=
  ∃ b A' n' c', e = .returned (.tuple #[.slice A' n' c', .bool b]) ∧ (b = true ↔ p) ∧ (b = true → n' = L.length ∧ Own w' w.heap.size A' n' c' M) ∧ Below w.heap.size w w'

set_option maxHeartbeats 1600000 in
set_option maxRecDepth 100000 in
theorem line_ranks (n c : Nat) (A : Option Addr) (L : List Int) (w : World) (hA : Ints w A n L) (h40 : In40 L) (hle : n ≤ 400) :
    Calls Tryd.prog 37 #[.slice A n c] w (GivesRB w L (ranksL L) (RanksOk L)) := by
  have HL := Lib.hid hA.len
  have H4 := Lib.hid h40
  clear h40
  go_enter Tryd.func37, Tryd.ntmps37
  go_wp2_with fail
  go_step3
  go_wp2_with (first | (at_make; refine makeN rfl _ _ rfl n rfl rfl (by omega) (Nat.le_refl _) ?_; intro w1 hown hb1 hz1))
  go_step3
  go_wp2_with fail
  go_loopw [12] (fun i wr => ∃ (k : Nat) (P : List Int), k ≤ n ∧ i = .int .i64 k ∧ Own wr w.heap.size (some ⟨w.heap.size, 0, none⟩) n n P ∧ Below w.heap.size w wr ∧ Hid (∀ i, i < k → P[i]? = some (rankTo L i n : Int)) ∧ Hid (∀ i j, i < k → j < n → i ≠ j → lat L i = lat L j → orderI L i j ≠ 0)) (fun i _ => n - (intOf i).toNat)
  case atStart => exact ⟨0, _, Nat.zero_le _, rfl, hown, hb1, Lib.hid (fun j h => absurd h (by omega)), Lib.hid (fun i j h => absurd h (by omega))⟩
  case round =>
    clear hown hb1 hz1
    obtain ⟨k, P, hk, rfl, hown, hbr, HP, HD⟩ := hrel
    by_cases hlt : k < n
    · obtain ⟨z, hz⟩ : ∃ z, P[k]? = some z := ⟨P[k]'(by rw [hown.len]; exact hlt), List.getElem?_eq_getElem _⟩
      have hcell := hown.cell hz
      have hfree := hown.free k
      have hset := hown.stored k (x := 1) ⟨by omega, by omega⟩
      have hb2 := hbr.setCell (p := ⟨w.heap.size, k, none⟩) (Nat.le_refl _) (.int .i64 1)
      have hPk : (P.set k 1)[k]? = some ((rankTo L k 0 : Nat) : Int) := List.getElem?_set_self (List.getElem?_eq_some_iff.1 hz).1
      have hPi : ∀ i, i < k → (P.set k 1)[i]? = some (rankTo L i n : Int) := fun i hi => by
        rw [List.getElem?_set_ne (by omega)]; exact HP.out i hi
      obtain ⟨P1, hP1⟩ : ∃ P1, P1 = P.set k 1 := ⟨_, rfl⟩
      rw [← hP1] at hPk hPi hset
      have HPK := Lib.hid hPk
      have HPI := Lib.hid hPi
      clear hPk hPi hP1 HP hz
      go_wp2_with fail
      go_loopw [20] (fun vj wr2 => ∃ (j : Nat) (P : List Int), j ≤ n ∧ vj = .int .i64 j ∧ Own wr2 w.heap.size (some ⟨w.heap.size, 0, none⟩) n n P ∧ Below w.heap.size w wr2 ∧ Hid (∀ i, i < k → P[i]? = some (rankTo L i n : Int)) ∧ Hid (P[k]? = some (rankTo L k j : Int)) ∧ Hid (∀ j', j' < j → k ≠ j' → lat L k = lat L j' → orderI L k j' ≠ 0)) (fun vj _ => n - (intOf vj).toNat)
      case atStart => exact ⟨0, P1, Nat.zero_le _, rfl, hset, hb2, HPI, HPK, Lib.hid (fun j h => absurd h (by omega))⟩
      case round =>
        clear hset hb2 HPI HPK hcell hfree hown hbr
        obtain ⟨j, P, hj, rfl, hown, hbr, HPI, HPK, HJ⟩ := hrel
        by_cases hjn : j < n
        · have hAr := hA.below hbr
          obtain ⟨ad, x, rfl, hx, hx1, hx2, hc⟩ := hAr.at_ hlt
          obtain ⟨y, hy, hy1, hy2, hd⟩ := hAr.also hjn
          have hxl := Lib.hid (lat_of hx.out)
          have hyl := Lib.hid (lat_of hy.out)
          clear hx hy
          by_cases e : k = j
          · have hr : rankTo L k (j + 1) = rankTo L k j := by rw [rankTo, if_neg (fun h => h.1 e)]; rfl
            have HPK' : Hid (P[k]? = some (rankTo L k (j + 1) : Int)) := Lib.hid (by rw [hr]; exact HPK.out)
            have HJ' : Hid (∀ j', j' < j + 1 → k ≠ j' → lat L k = lat L j' → orderI L k j' ≠ 0) := Lib.hid (fun j' h1 h2 => HJ.out j' (by omega) h2)
            subst e
            clear hr HPK HJ hAr
            go_wp2_with fail
            go_quiet (fail)
            go_wp2_with fail
            go_roundw
            case rel => exact ⟨k + 1, P, by omega, by go_num, hown.drewN _, below_drewN hbr _, HPI, HPK', HJ'⟩
            case measure => simp [intOf]; omega
          · have hne : ((k : Int) == (j : Int)) = false := by simpa using (by omega : (k : Int) ≠ j)
            have E := Lib.hid e
            clear e
            by_cases exy : x = y
            · subst exy
              have hself : (x != x) = false := by simp
              go_wp2_with fail
              go_quiet (fail)
              go_wp2_with fail
              refine (order_any _ _ _ _ _ _ _ (hAr.drewN nq) H4.out hlt hjn hle).mono ?_
              rintro e w2 ⟨rfl, hbw⟩
              have hb2 := below_chain (below_drewN hbr nq) hbw hbr.size
              have hown2 := (hown.drewN nq).below hbw
              have hll : lat L k = lat L j := by rw [hxl.out, hyl.out]
              have hs := orderI_bd L k j
              obtain ⟨s, hse⟩ : ∃ s, s = orderI L k j := ⟨_, rfl⟩
              rw [← hse] at hs
              rw [← hse]
              have HS := Lib.hid hse
              have HLL := Lib.hid hll
              clear hse hbw hll hAr hself
              rcases hs with rfl | rfl | rfl
              · clear hc hd
                go_wp2_with fail
                try rw [Exit.noGoto_ret]
                go_ret2
                refine ⟨false, none, 0, 0, rfl, ⟨fun h => absurd h (by simp), fun h => ?_⟩, fun h => absurd h (by simp), hb2⟩
                exact absurd HS.out.symm (h.1 k j (by rw [HL.out]; exact hlt) (by rw [HL.out]; exact hjn) E.out HLL.out)
              · have hr : rankTo L k (j + 1) = rankTo L k j + 1 := by rw [rankTo, if_pos ⟨E.out, HLL.out, HS.out.symm⟩]
                have hbd := rankTo_le (L := L) (i := k) (m := j + 1) (by rw [HL.out]; exact hlt) (by rw [HL.out]; omega)
                rw [HL.out, hr] at hbd
                obtain ⟨z, hz⟩ : ∃ z, z = rankTo L k j := ⟨_, rfl⟩
                have hcell := hown2.cell HPK.out
                have hfree := hown2.free k
                rw [← hz] at hbd hcell
                have hset := hown2.stored k (x := (z : Int) + 1) ⟨by omega, by omega⟩
                have hb3 := hb2.setCell (p := ⟨w.heap.size, k, none⟩) (Nat.le_refl _) (.int .i64 ((z : Int) + 1))
                have HPK' : Hid ((P.set k ((z : Int) + 1))[k]? = some (rankTo L k (j + 1) : Int)) := Lib.hid (by
                  rw [hr, hz, List.getElem?_set_self (List.getElem?_eq_some_iff.1 HPK.out).1]; rfl)
                have HPI' : Hid (∀ i, i < k → (P.set k ((z : Int) + 1))[i]? = some (rankTo L i n : Int)) := Lib.hid (fun i hi => by
                  rw [List.getElem?_set_ne (by omega)]; exact HPI.out i hi)
                have HJ' : Hid (∀ j', j' < j + 1 → k ≠ j' → lat L k = lat L j' → orderI L k j' ≠ 0) := Lib.hid (fun j' h1 h2 h3 => by
                  by_cases e : j' = j
                  · subst e; rw [← HS.out]; omega
                  · exact HJ.out j' (by omega) h2 h3)
                clear hr hz HPK HPI HJ hc hd hown
                go_wp2_with fail
                go_roundw
                case rel => exact ⟨j + 1, _, by omega, by go_num, hset, hb3, HPI', HPK', HJ'⟩
                case measure => simp [intOf]; omega
              · have hr : rankTo L k (j + 1) = rankTo L k j := by rw [rankTo, if_neg (fun h => by have := h.2.2; rw [← HS.out] at this; omega)]; rfl
                have HPK' : Hid (P[k]? = some (rankTo L k (j + 1) : Int)) := Lib.hid (by rw [hr]; exact HPK.out)
                have HJ' : Hid (∀ j', j' < j + 1 → k ≠ j' → lat L k = lat L j' → orderI L k j' ≠ 0) := Lib.hid (fun j' h1 h2 h3 => by
                  by_cases e : j' = j
                  · subst e; rw [← HS.out]; omega
                  · exact HJ.out j' (by omega) h2 h3)
                clear hr HPK HJ hc hd
                go_wp2_with fail
                go_roundw
                case rel => exact ⟨j + 1, P, by omega, by go_num, hown2, hb2, HPI, HPK', HJ'⟩
                case measure => simp [intOf]; omega
            · have hxy : (x != y) = true := by simpa using exy
              have hll : lat L k ≠ lat L j := by rw [hxl.out, hyl.out]; exact exy
              have hr : rankTo L k (j + 1) = rankTo L k j := by rw [rankTo, if_neg (fun h => hll h.2.1)]; rfl
              have HPK' : Hid (P[k]? = some (rankTo L k (j + 1) : Int)) := Lib.hid (by rw [hr]; exact HPK.out)
              have HJ' : Hid (∀ j', j' < j + 1 → k ≠ j' → lat L k = lat L j' → orderI L k j' ≠ 0) := Lib.hid (fun j' h1 h2 h3 => by
                by_cases e : j' = j
                · subst e; exact absurd h3 hll
                · exact HJ.out j' (by omega) h2 h3)
              clear hr HPK HJ hAr hll exy
              go_wp2_with fail
              go_quiet (fail)
              go_wp2_with fail
              go_roundw
              case rel => exact ⟨j + 1, P, by omega, by go_num, hown.drewN _, below_drewN hbr _, HPI, HPK', HJ'⟩
              case measure => simp [intOf]; omega
        · have hjn' : j = n := by omega
          subst hjn'
          go_wp2_with fail
          go_roundw
          case rel => exact ⟨k + 1, P, by omega, by go_num, hown, hbr, Lib.hid (fun i hi => by
            by_cases e : i = k
            · subst e; exact HPK.out
            · exact HPI.out i (by omega)), Lib.hid (fun i j' hi hj' h1 h2 => by
            by_cases e : i = k
            · subst e; exact HJ.out j' hj' h1 h2
            · exact HD.out i j' (by omega) hj' h1 h2)⟩
          case measure => simp [intOf]; omega
    · have hkn : k = n := by omega
      subst hkn
      have hP : P = ranksL L := by
        apply List.ext_getElem?
        intro i
        by_cases hi : i < k
        · rw [HP.out i hi, ranksL_at (by rw [HL.out]; exact hi), HL.out]
        · rw [List.getElem?_eq_none (by rw [hown.len]; omega), List.getElem?_eq_none (by rw [ranksL_len, HL.out]; omega)]
      rw [hP] at hown
      clear hP
      have hpar : Parts L := fun i j hi hj => HD.out i j (by rw [← HL.out]; exact hi) (by rw [← HL.out]; exact hj)
      have hI := hown.ints
      go_wp2_with fail
      refine (line_drawn _ _ _ _ _ _ _ _ (hA.below hbr) hI H4.out (ranksL_bd (by rw [HL.out]; exact hle)) hle).mono ?_
      rintro e w2 ⟨b, rfl, hb, hbw⟩
      have hown2 := hown.below hbw
      have hball := below_chain hbr hbw hbr.size
      have hk' := Lib.hid HL.out.symm
      have HB : Hid (b = true ↔ RanksOk L) := Lib.hid ⟨fun h => ⟨hpar, hb.1 h⟩, fun h => hb.2 h.2⟩
      clear hb hbw hI hown hbr
      go_wp2_with fail
      try rw [Exit.noGoto_ret]
      go_ret2
      exact ⟨b, _, _, _, rfl, HB.out, fun _ => ⟨hk'.out, hown2⟩, hball⟩
end Go.Proofs.YtpdkonpnhalecaaDoor
