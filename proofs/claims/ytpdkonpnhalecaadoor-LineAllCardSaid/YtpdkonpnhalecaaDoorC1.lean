/-
  Contracts: line.ahead, line.order. Conditions: the slice reads as a word's letters.
-/
import Derived.Test.YtpdkonpnhalecaaDoorB10
import Derived.Test.YtpdkonpnhalecaaDoorP3
import Derived.Deep.DeepCutAuto
namespace Go.Proofs.YtpdkonpnhalecaaDoor
open Go.RowKit

theorem ahead_any (a g : Int) (w : World) (h1 : 0 ≤ a) (h2 : a ≤ 40) (h3 : 0 ≤ g) (h4 : g ≤ 40) :
    Calls Tryd.prog 77 #[.int .i64 a, .int .i64 g] w fun e w' => e = .returned (.int .i64 (aheadI a g)) ∧ w' = w := by
  by_cases h : a < g
  · have hf := Lib.hid (show aheadI a g = g - a by unfold aheadI; rw [if_pos h])
    go_enter Tryd.func77, Tryd.ntmps77
    go_wp2
    go_ret
    exact ⟨ret_int hf.out.symm, rfl⟩
  · have hf := Lib.hid (show aheadI a g = g - a + 40 + 1 by unfold aheadI; rw [if_neg h]; omega)
    go_enter Tryd.func77, Tryd.ntmps77
    go_wp2
    go_ret
    exact ⟨ret_int hf.out.symm, rfl⟩

set_option maxHeartbeats 1600000 in
set_option maxRecDepth 100000 in
theorem order_any (i j n c : Nat) (A : Option Addr) (L : List Int) (w : World) (hA : Ints w A n L) (h40 : In40 L) (hi : i < n) (hj : j < n) (hle : n ≤ 400) :
    Calls Tryd.prog 54 #[.slice A n c, .int .i64 i, .int .i64 j] w fun e w' => e = .returned (.int .i64 (orderI L i j)) ∧ Below w.heap.size w w' := by
  have HL := Lib.hid hA.len
  have H4 := Lib.hid h40
  clear h40
  obtain ⟨n1, hn1⟩ : ∃ n1 : Nat, (n : Int) - 1 = (n1 : Int) := ⟨n - 1, by omega⟩
  have hn1' : Hid (n1 = n - 1) := by unfold Hid; omega
  have hn1b : (n1 : Int) ≤ 400 := by omega
  obtain ⟨a, ha⟩ : ∃ a, a = stepN n i := ⟨_, rfl⟩
  obtain ⟨b, hb⟩ : ∃ b, b = stepN n j := ⟨_, rfl⟩
  have ha400 : a ≤ 400 := by subst ha; unfold stepN; split <;> omega
  have hb400 : b ≤ 400 := by subst hb; unfold stepN; split <;> omega
  have HA := Lib.hid ha
  have HB := Lib.hid hb
  clear ha hb
  obtain ⟨R, hR⟩ : ∃ R, R = orderI L i j := ⟨_, rfl⟩
  have HR : Hid (ordF L a b (n + 1) i j (-1) = R) := by unfold Hid; rw [hR, HA.out, HB.out]; unfold orderI; rw [HL.out]
  rw [← hR]
  clear hR
  go_enter Tryd.func54, Tryd.ntmps54
  go_upto_region 3 with fail
  obtain ⟨W, hW⟩ : ∃ W, W = w.alloc (.cells #[.int .i64 1, .int .i64 (n1 : Int)] 53) := ⟨_, rfl⟩
  rw [← hW]
  have hbW : Below w.heap.size w W := by subst hW; exact (Below.refl _ _).alloc (Nat.le_refl _) _
  have hc0 : W.cell? ⟨w.heap.size, 0, none⟩ = some (.int .i64 1) := by subst hW; rw [World.cell?_alloc_at _ _ _ _ rfl]; rfl
  have hc1 : W.cell? ⟨w.heap.size, 1, none⟩ = some (.int .i64 (n1 : Int)) := by subst hW; rw [World.cell?_alloc_at _ _ _ _ rfl]; rfl
  have hAW := hA.below hbW
  clear hW
  go_cut [9, 10] (fun va vb wx => va = .int .i64 a ∧ vb = .int .i64 b ∧ Drawn W wx)
  case first =>
    rcases Nat.mod_two_eq_zero_or_one i with h1 | h1
    · have h1' : (i : Int) % 2 = 0 := by omega
      have e1 := Lib.hid (show a = 1 by rw [HA.out]; unfold stepN; rw [if_pos h1])
      rcases Nat.mod_two_eq_zero_or_one j with h2 | h2
      · have h2' : (j : Int) % 2 = 0 := by omega
        have e2 := Lib.hid (show b = 1 by rw [HB.out]; unfold stepN; rw [if_pos h2])
        clear h1 h2
        go_quiet (fail)
        go_wp2_with fail
        go_meet
        case rel => exact ⟨by rw [e1.out]; rfl, by rw [e2.out]; rfl, drawn1 _ _⟩
      · have h2' : (j : Int) % 2 = 1 := by omega
        have e2 := Lib.hid (show b = n1 by rw [HB.out, hn1'.out]; unfold stepN; rw [if_neg (by omega)])
        clear h1 h2
        go_quiet (fail)
        go_wp2_with fail
        go_meet
        case rel => exact ⟨by rw [e1.out]; rfl, by rw [e2.out], drawn1 _ _⟩
    · have h1' : (i : Int) % 2 = 1 := by omega
      have e1 := Lib.hid (show a = n1 by rw [HA.out, hn1'.out]; unfold stepN; rw [if_neg (by omega)])
      rcases Nat.mod_two_eq_zero_or_one j with h2 | h2
      · have h2' : (j : Int) % 2 = 0 := by omega
        have e2 := Lib.hid (show b = 1 by rw [HB.out]; unfold stepN; rw [if_pos h2])
        clear h1 h2
        go_quiet (fail)
        go_wp2_with fail
        go_meet
        case rel => exact ⟨by rw [e1.out], by rw [e2.out]; rfl, drawn1 _ _⟩
      · have h2' : (j : Int) % 2 = 1 := by omega
        have e2 := Lib.hid (show b = n1 by rw [HB.out, hn1'.out]; unfold stepN; rw [if_neg (by omega)])
        clear h1 h2
        go_quiet (fail)
        go_wp2_with fail
        go_meet
        case rel => exact ⟨by rw [e1.out], by rw [e2.out], drawn1 _ _⟩
  case rest =>
    obtain ⟨rfl, rfl, hd0⟩ := hcut
    have hAc := hAW.drawn hd0
    have hbc := Lib.hid (hbW.trans (hd0.below _))
    clear hc0 hc1 hAW hbW hd0 HA HB hn1' hn1b hn1
    go_wp2_with fail
    go_loopw [1, 2, 11, 31] (fun vi vj vs vt wr => ∃ (p q t : Nat) (s : Int), p < n ∧ q < n ∧ t ≤ n + 1 ∧ -1 ≤ s ∧ s ≤ 1 ∧ vi = .int .i64 p ∧ vj = .int .i64 q ∧ vs = .int .i64 s ∧ vt = .int .i64 t ∧ Hid (ordF L a b (n + 1 - t) p q s = R) ∧ Drawn wc wr) (fun _ _ _ vt _ => (n + 1) - (intOf vt).toNat)
    case atStart => exact ⟨i, j, 0, -1, hi, hj, by omega, by omega, by omega, rfl, rfl, rfl, rfl, HR, Drawn.refl _⟩
    case round =>
      clear HR
      obtain ⟨p, q, t, s, hp, hq, ht, hs1, hs2, rfl, rfl, rfl, rfl, HR, m, rfl⟩ := hrel
      by_cases hlt : t < n + 1
      · obtain ⟨x, hx⟩ : ∃ x, (p + a) % n = x := ⟨_, rfl⟩
        obtain ⟨y, hy⟩ : ∃ y, (q + b) % n = y := ⟨_, rfl⟩
        have hxn : x < n := by subst hx; exact Nat.mod_lt _ (by omega)
        have hyn : y < n := by subst hy; exact Nat.mod_lt _ (by omega)
        have hxi : ((p : Int) + (a : Int)) % (n : Int) = (x : Int) := by subst hx; simp
        have hyi : ((q : Int) + (b : Int)) % (n : Int) = (y : Int) := by subst hy; simp
        have s1 : (0 : Int) ≤ (p : Int) + (a : Int) := by omega
        have s2 : (p : Int) + (a : Int) ≤ 1000 := by omega
        have s3 : (0 : Int) ≤ (q : Int) + (b : Int) := by omega
        have s4 : (q : Int) + (b : Int) ≤ 1000 := by omega
        obtain ⟨ad, g1, rfl, hg1, _, _, c1⟩ := hAc.at_ hp
        obtain ⟨g2, hg2, _, _, c2⟩ := hAc.also hxn
        obtain ⟨g3, hg3, _, _, c3⟩ := hAc.also hq
        obtain ⟨g4, hg4, _, _, c4⟩ := hAc.also hyn
        obtain ⟨a1, b1⟩ := H4.out.at_ hg1.out
        obtain ⟨a2, b2⟩ := H4.out.at_ hg2.out
        obtain ⟨a3, b3⟩ := H4.out.at_ hg3.out
        obtain ⟨a4, b4⟩ := H4.out.at_ hg4.out
        have hf : n + 1 - t = (n + 1 - (t + 1)) + 1 := by omega
        have HR' : Hid ((if aheadI g1 g2 = aheadI g3 g4 then ordF L a b (n + 1 - (t + 1)) x y (-s) else if aheadI g1 g2 < aheadI g3 g4 then -s else s) = R) := by
          have h := HR.out
          rw [hf, ordF, HL.out, hx, hy, lat_of hg1.out, lat_of hg2.out, lat_of hg3.out, lat_of hg4.out] at h
          exact h
        clear HR hx hy hf hg1 hg2 hg3 hg4
        obtain ⟨u, hu⟩ : ∃ u, aheadI g1 g2 = u := ⟨_, rfl⟩
        obtain ⟨v, hv⟩ : ∃ v, aheadI g3 g4 = v := ⟨_, rfl⟩
        have hub := aheadI_bd (a := g1) (g := g2) ⟨a1, b1⟩ ⟨a2, b2⟩
        have hvb := aheadI_bd (a := g3) (g := g4) ⟨a3, b3⟩ ⟨a4, b4⟩
        rw [hu] at hub HR'
        rw [hv] at hvb HR'
        obtain ⟨hub1, hub2⟩ := hub
        obtain ⟨hvb1, hvb2⟩ := hvb
        have HU := Lib.hid hu
        have HV := Lib.hid hv
        clear hu hv
        go_wp2_with fail
        go_quiet (fail)
        go_wp2_with fail
        rw [hxi, hyi]
        rw [World.drewN_drewN]
        obtain ⟨W2, hW2⟩ : ∃ W2, W2 = wc.drewN (m + nq) := ⟨_, rfl⟩
        rw [← hW2]
        have hd2 : Drawn wc W2 := ⟨_, hW2⟩
        have c1' : W2.cell? (ad.add p) = some (.int .i64 g1) := by rw [hW2]; exact c1
        have c2' : W2.cell? (ad.add x) = some (.int .i64 g2) := by rw [hW2]; exact c2
        have c3' : W2.cell? (ad.add q) = some (.int .i64 g3) := by rw [hW2]; exact c3
        have c4' : W2.cell? (ad.add y) = some (.int .i64 g4) := by rw [hW2]; exact c4
        clear hW2 c1 c2 c3 c4
        have hu := HU.out
        have hv := HV.out
        clear hxi hyi
        by_cases huv : u = v
        · have huv' : (u != v) = false := by simpa using huv
          rw [if_pos huv] at HR'
          clear huv
          go_quiet ((go_at_call 77; exact Calls.quiet_of_same (ahead_any _ _ _ (by omega) (by omega) (by omega) (by omega))))
          go_wp2_with fail
          go_roundw
          case rel => exact ⟨x, y, t + 1, -s, hxn, hyn, by omega, by omega, by omega, rfl, rfl, by go_num, by go_num, HR', hd2.drewN _⟩
          case measure => simp [intOf]; omega
        · have huv' : (u != v) = true := by simpa using huv
          rw [if_neg huv] at HR'
          by_cases hlt2 : u < v
          · rw [if_pos hlt2] at HR'
            clear huv
            go_quiet ((go_at_call 77; exact Calls.quiet_of_same (ahead_any _ _ _ (by omega) (by omega) (by omega) (by omega))))
            go_wp2_with fail
            go_ret
            exact ⟨ret_int HR'.out, below_drewN (hbc.out.trans (hd2.below _)) _⟩
          · rw [if_neg hlt2] at HR'
            clear huv
            go_quiet ((go_at_call 77; exact Calls.quiet_of_same (ahead_any _ _ _ (by omega) (by omega) (by omega) (by omega))))
            go_wp2_with fail
            go_ret
            exact ⟨ret_int HR'.out, below_drewN (hbc.out.trans (hd2.below _)) _⟩
      · go_wp2_with fail
        go_ret
        have ht' : t = n + 1 := by omega
        subst ht'
        rw [Nat.sub_self] at HR
        exact ⟨ret_int HR.out, below_drewN hbc.out m⟩
end Go.Proofs.YtpdkonpnhalecaaDoor
