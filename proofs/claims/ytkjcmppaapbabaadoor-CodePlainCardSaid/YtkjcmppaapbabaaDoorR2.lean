/-
  Contract: ref.Drawn. Conditions: the slices read.
-/
import Derived.Test.YtkjcmppaapbabaaDoorR1
import Derived.BigQuiet
namespace Go.Proofs.YtkjcmppaapbabaaDoor
open Go.RowKit
def gateB (L : List Int) (i j : Nat) : Bool := decide (lat L j = lat L i)
def bothB (L R : List Int) (i j : Nat) : Bool := decide (lat L j = lat L i) && decide (lat R j = lat R i)
def manyN (L : List Int) (i : Nat) : Nat := countTo (gateB L i) L.length
def sameN (L R : List Int) (i : Nat) : Nat := countTo (bothB L R i) L.length
/-- The ranks of one gate are 1, 2, .. -/
def ranksOkAt (L R : List Int) (i : Nat) : Prop := 1 ≤ lat R i ∧ lat R i ≤ manyN L i ∧ sameN L R i = 1
/-- Two arcs of one side do not cross, as the document says it. -/
def arcsOkAt (L R : List Int) (n i j : Nat) : Prop := j ≠ i → btwB L R j i ((i + 1) % n) = btwB L R ((j + 1) % n) i ((i + 1) % n)
def DrawnR (L R : List Int) : Prop :=
  R.length = L.length ∧ (∀ i, i < L.length → ranksOkAt L R i) ∧ ∀ i j, i < L.length → j < L.length → j % 2 = i % 2 → arcsOkAt L R L.length i j
def GivesD (w : World) (p : Prop) (e : Ending) (w' : World) : Prop := ∃ b, e = .returned (.bool b) ∧ (b = true ↔ p) ∧ Drawn w w'
theorem gives_dno {w w' : World} {p : Prop} (h : ¬p) (hd : Drawn w w') : GivesD w p (.returned (.bool false)) w' := ⟨false, rfl, by simp [h], hd⟩
theorem gives_dyes {w w' : World} {p : Prop} (h : p) (hd : Drawn w w') : GivesD w p (.returned (.bool true)) w' := ⟨true, rfl, by simp [h], hd⟩

set_option maxHeartbeats 3200000 in
set_option maxRecDepth 100000 in
theorem ref_drawn (A B : Option Addr) (n m c d : Nat) (L R : List Int) (w : World) (hA : Ints w A n L) (hB : Ints w B m R) :
    Calls Tryd.prog 56 #[.slice A n c, .slice B m d] w (GivesD w (DrawnR L R)) := by
  have hle := hA.le
  have HL := Lib.hid hA.len
  have HR := Lib.hid hB.len
  by_cases hmn : m = n
  · subst hmn
    go_enter Tryd.func56, Tryd.ntmps56
    go_wp2_with fail
    go_loopw [6] (fun i wr => ∃ k : Nat, k ≤ m ∧ i = .int .i64 k ∧ Drawn w wr ∧ Hid (∀ t, t < k → ranksOkAt L R t)) (fun i _ => m - (intOf i).toNat)
    case atStart => exact ⟨0, Nat.zero_le _, rfl, Drawn.refl _, Lib.hid (fun t h => absurd h (by omega))⟩
    case round =>
      obtain ⟨k, hk, rfl, hd, HO⟩ := hrel
      have hAr := hA.drawn hd
      have hBr := hB.drawn hd
      have HD := Lib.hid hd
      clear hd
      by_cases hlt : k < m
      · obtain ⟨ad, x, rfl, hx, hx1, hx2, hcx⟩ := hAr.at_ hlt
        obtain ⟨bd, r, rfl, hr, hr1, hr2, hcr⟩ := hBr.at_ hlt
        go_wp2_with fail
        obtain ⟨W, hW⟩ : ∃ W, W = wr := ⟨_, rfl⟩
        rw [← hW] at hAr hBr hcx hcr
        rw [← hW]
        have HDW : Hid (Drawn w W) := by rw [hW]; exact HD.out
        clear HD hW
        go_loopw [7, 8, 9] (fun a b j wr => ∃ t : Nat, t ≤ m ∧ j = .int .i64 t ∧ a = .int .i64 (countTo (gateB L k) t : Nat) ∧ b = .int .i64 (countTo (bothB L R k) t : Nat) ∧ Drawn W wr) (fun _ _ j _ => m - (intOf j).toNat)
        case atStart => exact ⟨0, Nat.zero_le _, rfl, rfl, rfl, Drawn.refl _⟩
        case round =>
          obtain ⟨t, ht, rfl, rfl, rfl, hd2⟩ := hrel
          have hg1 := countTo_le (gateB L k) t
          have hg2 := countTo_le (bothB L R k) t
          have hy1 := Lib.hid (countTo_yes (p := gateB L k) (n := t))
          have hn1 := Lib.hid (countTo_no (p := gateB L k) (n := t))
          have hy2 := Lib.hid (countTo_yes (p := bothB L R k) (n := t))
          have hn2 := Lib.hid (countTo_no (p := bothB L R k) (n := t))
          have HM : Hid (m ≤ t → countTo (gateB L k) t = manyN L k) := fun h => by unfold manyN; rw [HL.out]; congr 1; omega
          have HS : Hid (m ≤ t → countTo (bothB L R k) t = sameN L R k) := fun h => by unfold sameN; rw [HL.out]; congr 1; omega
          obtain ⟨a, ha⟩ : ∃ a, countTo (gateB L k) t = a := ⟨_, rfl⟩
          obtain ⟨b, hb⟩ : ∃ b, countTo (bothB L R k) t = b := ⟨_, rfl⟩
          rw [ha] at hg1 hy1 hn1 HM ⊢
          rw [hb] at hg2 hy2 hn2 HS ⊢
          clear ha hb
          obtain ⟨q, rfl⟩ := hd2
          by_cases hlt2 : t < m
          · obtain ⟨y, hy, hy3, hy4, hcy⟩ := hAr.also hlt2
            obtain ⟨s, hs, hs3, hs4, hcs⟩ := hBr.also hlt2
            have l1 := lat_of hx.out
            have l2 := lat_of hy.out
            have l3 := lat_of hr.out
            have l4 := lat_of hs.out
            by_cases hxy : y = x
            · subst hxy
              have g1 : Hid (gateB L k t = true) := by unfold Hid gateB; rw [l1, l2]; simp
              by_cases hrs : s = r
              · subst hrs
                have g2 : Hid (bothB L R k t = true) := by unfold Hid bothB; rw [l1, l2, l3, l4]; simp
                clear l1 l2 l3 l4
                go_wp2_with fail
                go_quiet (fail)
                go_wp2_with fail
                go_quiet (fail)
                go_wp2_with fail
                go_roundw
                case rel => exact ⟨t + 1, by omega, by go_num, by rw [hy1.out g1.out]; go_num, by rw [hy2.out g2.out]; go_num, drawn1 _ _⟩
                case measure => simp [intOf]; omega
              · have g2 : Hid (bothB L R k t = false) := by unfold Hid bothB; rw [l1, l2, l3, l4]; simp [hrs]
                have hrs' : (s == r) = false := by simpa using hrs
                clear l1 l2 l3 l4 hrs
                go_wp2_with fail
                go_quiet (fail)
                go_wp2_with fail
                go_quiet (fail)
                go_wp2_with fail
                go_roundw
                case rel => exact ⟨t + 1, by omega, by go_num, by rw [hy1.out g1.out]; go_num, by rw [hn2.out g2.out], drawn1 _ _⟩
                case measure => simp [intOf]; omega
            · have g1 : Hid (gateB L k t = false) := by unfold Hid gateB; rw [l1, l2]; simp [hxy]
              have g2 : Hid (bothB L R k t = false) := by unfold Hid bothB; rw [l1, l2]; simp [hxy]
              have hxy' : (y == x) = false := by simpa using hxy
              clear l1 l2 l3 l4 hxy
              go_wp2_with fail
              go_quiet (fail)
              go_wp2_with fail
              go_roundw
              case rel => exact ⟨t + 1, by omega, by go_num, by rw [hn1.out g1.out], by rw [hn2.out g2.out], drawn1 _ _⟩
              case measure => simp [intOf]; omega
          · have hm1 := HM.out (by omega)
            have hs1 := HS.out (by omega)
            have l3 := lat_of hr.out
            have hdw : Hid (Drawn w (W.drewN q)) := HDW.out.drewN q
            by_cases b1 : r < 1
            · have hno : Hid (¬ranksOkAt L R k) := fun h => by have := h.1; rw [l3] at this; omega
              clear l3 hm1 hs1
              go_wp2_with fail
              go_ret
              exact gives_dno (fun h => hno.out (h.2.1 k (by rw [HL.out]; exact hlt))) hdw.out
            · by_cases b2 : (a : Int) < r
              · have hno : Hid (¬ranksOkAt L R k) := fun h => by have := h.2.1; rw [l3, ← hm1] at this; omega
                clear l3 hm1 hs1
                go_wp2_with fail
                go_ret
                exact gives_dno (fun h => hno.out (h.2.1 k (by rw [HL.out]; exact hlt))) hdw.out
              · by_cases b3 : b = 1
                · have hyes : ranksOkAt L R k := ⟨by rw [l3]; omega, by rw [l3, ← hm1]; omega, by rw [← hs1]; exact b3⟩
                  have HO' : Hid (∀ t, t < k + 1 → ranksOkAt L R t) := fun t ht => by
                    by_cases e : t = k
                    · subst e; exact hyes
                    · exact HO.out t (by omega)
                  subst b3
                  clear l3 hm1 hs1 hyes
                  go_wp2_with fail
                  go_roundw
                  case rel => exact ⟨k + 1, by omega, by go_num, hdw.out, HO'⟩
                  case measure => simp [intOf]; omega
                · have hno : Hid (¬ranksOkAt L R k) := fun h => b3 (by rw [hs1]; exact h.2.2)
                  have b3' : ((b : Int) != 1) = true := by simp; omega
                  clear l3 hm1 hs1 b3
                  go_wp2_with fail
                  go_ret
                  exact gives_dno (fun h => hno.out (h.2.1 k (by rw [HL.out]; exact hlt))) hdw.out
      · have HO2 : Hid (∀ t, t < m → ranksOkAt L R t) := fun t ht => HO.out t (by omega)
        obtain ⟨W, hW⟩ : ∃ W, W = wr := ⟨_, rfl⟩
        rw [← hW] at hAr hBr
        have HDW : Hid (Drawn w W) := by rw [hW]; exact HD.out
        go_wp2_with fail
        rw [← hW]
        clear HO HD hW
        go_loopw [10] (fun i wr => ∃ k : Nat, k ≤ m ∧ i = .int .i64 k ∧ Drawn W wr ∧ Hid (∀ i j, i < k → j < m → j % 2 = i % 2 → arcsOkAt L R m i j)) (fun i _ => m - (intOf i).toNat)
        case atStart => exact ⟨0, Nat.zero_le _, rfl, Drawn.refl _, Lib.hid (fun i j h => absurd h (by omega))⟩
        case round =>
          obtain ⟨k, hk, rfl, hd, HP⟩ := hrel
          have hAk := hAr.drawn hd
          have hBk := hBr.drawn hd
          have HD := Lib.hid hd
          clear hd
          by_cases hlt : k < m
          · have h2k : Hid ((k : Int) % 2 = ((k % 2 : Nat) : Int)) := by unfold Hid; omega
            obtain ⟨p0, hp0⟩ : ∃ p0, k % 2 = p0 := ⟨_, rfl⟩
            rw [hp0] at h2k
            have hp2 := h2k.out
            have HP0 := Lib.hid hp0
            have hp01 : p0 ≤ 1 := by omega
            clear hp0
            obtain ⟨k1, hk1⟩ : ∃ k1, (k + 1) % m = k1 := ⟨_, rfl⟩
            have hk1m : k1 < m := by rw [← hk1]; exact Nat.mod_lt _ (by omega)
            have hk1i : ((k : Int) + 1) % (m : Int) = (k1 : Int) := by rw [← hk1]; simp
            have HK1 := Lib.hid hk1
            clear hk1
            go_wp2_with fail
            obtain ⟨V, hV⟩ : ∃ V, V = wr := ⟨_, rfl⟩
            rw [← hV] at hAk hBk
            rw [← hV]
            have HDV : Hid (Drawn W V) := by rw [hV]; exact HD.out
            clear HD hV hp2
            go_loopw [11] (fun j wr => ∃ t : Nat, t ≤ m + 1 ∧ j = .int .i64 t ∧ Drawn V wr ∧ Hid (t % 2 = p0) ∧ Hid (∀ j, j < t → j < m → j % 2 = p0 → arcsOkAt L R m k j)) (fun j _ => (m + 2) - (intOf j).toNat)
            case atStart => exact ⟨p0, by omega, by rw [h2k.out], Drawn.refl _, Lib.hid (by have := HP0.out; omega), Lib.hid (fun j h1 h2 h3 => absurd h3 (by omega))⟩
            case round =>
              obtain ⟨t, ht, rfl, hd2, HT, HQ⟩ := hrel
              have hAt := hAk.drawn hd2
              have hBt := hBk.drawn hd2
              have HD2 := Lib.hid hd2
              clear hd2
              by_cases hlt2 : t < m
              · have HQ' : arcsOkAt L R m k t → Hid (∀ j, j < t + 2 → j < m → j % 2 = p0 → arcsOkAt L R m k j) := fun h => fun j h1 h2 h3 => by
                  by_cases e : j = t
                  · subst e; exact h
                  · have := HT.out
                    exact HQ.out j (by omega) h2 h3
                have HT' : Hid ((t + 2) % 2 = p0) := by have := HT.out; unfold Hid; omega
                have HQ' := Lib.hid HQ'
                by_cases htk : t = k
                · have hq := HQ'.out (fun h => absurd htk h)
                  subst htk
                  go_wp2_with fail
                  go_quiet (fail)
                  go_wp2_with fail
                  go_roundw
                  case rel => exact ⟨t + 2, by omega, by go_num, HD2.out.drewN _, HT', hq⟩
                  case measure => simp [intOf]; omega
                · have htk' : ((t : Int) != (k : Int)) = true := by simp; omega
                  obtain ⟨t1, ht1⟩ : ∃ t1, (t + 1) % m = t1 := ⟨_, rfl⟩
                  have ht1m : t1 < m := by rw [← ht1]; exact Nat.mod_lt _ (by omega)
                  have ht1i : ((t : Int) + 1) % (m : Int) = (t1 : Int) := by rw [← ht1]; simp
                  have HA : Hid (btwB L R t k k1 = btwB L R t1 k k1 ↔ arcsOkAt L R m k t) := by
                    unfold Hid arcsOkAt
                    rw [HK1.out, ht1]
                    exact ⟨fun h _ => h, fun h => h htk⟩
                  clear ht1
                  by_cases hbb : btwB L R t k k1 = btwB L R t1 k k1
                  · have hq := HQ'.out (HA.out.1 hbb)
                    have hbne : (!(btwB L R t k k1 == btwB L R t1 k k1)) = false := by rw [hbb]; simp
                    clear hbb htk
                    go_wp2_with fail
                    go_quiet ((go_at_call 104; exact quiet_calls (ref_between _ _ _ _ _ _ _ _ _ _ _ (hAt.drewN _) (hBt.drewN _) (by first | exact hlt2 | exact ht1m) hlt hk1m)))
                    go_wp2_with fail
                    go_roundw
                    case rel => exact ⟨t + 2, by omega, by go_num, HD2.out.drewN _, HT', hq⟩
                    case measure => simp [intOf]; omega
                  · have hno : Hid (¬arcsOkAt L R m k t) := fun h => hbb (HA.out.2 h)
                    have hbne : (!(btwB L R t k k1 == btwB L R t1 k k1)) = true := by simpa using hbb
                    have hdw : Hid (∀ z, Drawn w (wr.drewN z)) := fun z => (((HDW.out.trans HDV.out).trans HD2.out).drewN z)
                    clear hbb htk
                    go_wp2_with fail
                    go_quiet ((go_at_call 104; exact quiet_calls (ref_between _ _ _ _ _ _ _ _ _ _ _ (hAt.drewN _) (hBt.drewN _) (by first | exact hlt2 | exact ht1m) hlt hk1m)))
                    go_wp2_with fail
                    go_ret
                    exact gives_dno (fun h => hno.out (by
                      have := h.2.2 k t (by rw [HL.out]; exact hlt) (by rw [HL.out]; exact hlt2) (by rw [HT.out, HP0.out])
                      rwa [HL.out] at this)) (hdw.out _)
              · have HP' : Hid (∀ i j, i < k + 1 → j < m → j % 2 = i % 2 → arcsOkAt L R m i j) := fun i j h1 h2 h3 => by
                  by_cases e : i = k
                  · subst e
                    exact HQ.out j (by omega) h2 (by rw [h3, HP0.out])
                  · exact HP.out i j (by omega) h2 h3
                have hdw : Hid (Drawn W wr) := HDV.out.trans HD2.out
                go_wp2_with fail
                go_roundw
                case rel => exact ⟨k + 1, by omega, by go_num, hdw.out, HP'⟩
                case measure => simp [intOf]; omega
          · have hall : Hid (DrawnR L R) := ⟨by rw [HL.out, HR.out], fun i hi => HO2.out i (by rw [HL.out] at hi; exact hi), fun i j hi hj hp => by
              rw [HL.out] at hi hj ⊢
              exact HP.out i j (by omega) hj hp⟩
            have hdw : Hid (Drawn w wr) := HDW.out.trans HD.out
            go_wp2_with fail
            go_ret
            exact gives_dyes hall.out hdw.out
  · have hne : ((m : Int) != (n : Int)) = true := by simp; omega
    go_enter Tryd.func56, Tryd.ntmps56
    go_wp2_with fail
    go_ret
    exact gives_dno (fun h => hmn (by rw [← HL.out, ← HR.out]; exact h.1)) (drawn1 _ 0)
end Go.Proofs.YtkjcmppaapbabaaDoor
