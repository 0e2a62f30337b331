/-
  Contract: the program's left; flat. Conditions: the diagram of a well-formed code.
-/
import Derived.Test.YtkjcmppaapbabaaDoorM7
namespace Go.Proofs.YtkjcmppaapbabaaDoor
open Go.RowKit
theorem DiaF.next {w w' : World} {base p k : Nat} {A : Option Addr} {n c : Nat} {L : List Lt} {b g2 g3 g4 g6 : Nat} {s : List Bool} {P C ids : List Int} (h : DiaF w base p k A n c L b g2 g3 g4 g6 s P C ids) (hb : Below w.heap.size w w') : DiaF w' base p k A n c L b g2 g3 g4 g6 s P C ids :=
  ⟨⟨h.ranks.dia.next hb, h.ranks.down.below hb h.ranks.down.lt, h.ranks.axis.below hb h.ranks.axis.lt, h.ranks.place.below hb h.ranks.place.lt, h.ranks.count.below hb h.ranks.count.lt, h.ranks.downs, h.ranks.places, h.ranks.counts⟩, h.vis.next hb, h.lets.below hb, h.good, h.small⟩
/-- The program's step to the left. -/
theorem dia_left (d base p k : Nat) (A : Option Addr) (n c : Nat) (L : List Lt) (b g2 g3 g4 g6 : Nat) (s : List Bool) (P C ids : List Int) (w : World) (h : DiaF w base p k A n c L b g2 g3 g4 g6 s P C ids) (hd : d < dartsN L) :
    Calls Tryd.prog 123 #[.pointer (some ⟨p, 0, none⟩), .int .i64 d] w fun e w' => e = .returned (.int .i64 (leftF L (axL L) d)) ∧ Below w.heap.size w w' := by
  have hl := h.lets.len
  rcases Nat.lt_or_ge d (2 * n) with hlt | hge
  · rcases h.good.kinds (headN n d) (by rw [hl]; exact headN_lt hlt) with hp | hc
    · exact dia_left_pass d base p k A n c L b g2 g3 g4 g6 s P C ids w h hlt hp
    · exact dia_left_cross d base p k A n c L b g2 g3 g4 g6 s P C ids w h hlt hc
  · exact dia_left_axis d base p k A n c L b g2 g3 g4 g6 s P C ids w h hd hge
/-- How many of a block's bools are false. -/
def unW (w : World) (g : Nat) : Nat :=
  match w.heap[g]? with
  | some (.cells cs _ _) => cs.toList.countP (fun v => match v with | .bool b => !b | _ => false)
  | _ => 0
theorem OwnB.unW {w : World} {base g n : Nat} {s : List Bool} (h : OwnB w base g n s) : unW w g = unN s := by
  have hb := h.blk
  unfold Blk at hb
  unfold Proofs.YtkjcmppaapbabaaDoor.unW unN
  rw [hb]
  simp only [List.countP_map]
  rfl
theorem Good.visits {K : Int} {L : List Lt} (g : Good K L) : dN L L.length = cN L L.length / 2 := by
  refine dN_is ?_
  unfold crossP
  simp only [Bool.and_eq_true, decide_eq_true_eq, allTo_iff]
  exact ⟨g.ceven, g.cross⟩
theorem w1_stop {f : Nat → Nat} {k : Nat} {s : List Bool} {x : Nat} (h : sat s x = true) : walk1 f k s x = ([], s) := by
  cases k with
  | zero => rfl
  | succ k => unfold walk1; rw [if_pos h]
theorem w1_step {f : Nat → Nat} {k : Nat} {s : List Bool} {x : Nat} (h : sat s x = false) : walk1 f (k + 1) s x = (x :: (walk1 f k (s.set x true) (f x)).1, (walk1 f k (s.set x true) (f x)).2) := by
  conv => lhs; unfold walk1
  rw [if_neg (by rw [h]; simp)]
theorem wF_yes {f : Nat → Nat} {d k : Nat} {s : List Bool} (h : sat s d = true) : walksF f (List.range' d (k + 1)) s = walksF f (List.range' (d + 1) k) s := by
  rw [List.range'_succ]; conv => lhs; unfold walksF
  rw [if_pos h]
theorem wF_no {f : Nat → Nat} {d k : Nat} {s : List Bool} (h : sat s d = false) : walksF f (List.range' d (k + 1)) s = (walk1 f s.length s d).1 :: walksF f (List.range' (d + 1) k) (walk1 f s.length s d).2 := by
  rw [List.range'_succ]; conv => lhs; unfold walksF
  rw [if_neg (by rw [h]; simp)]
set_option maxRecDepth 100000 in
set_option maxHeartbeats 3200000 in
theorem dia_flat (base p k : Nat) (A : Option Addr) (n c : Nat) (L : List Lt) (b g2 g3 g4 g6 : Nat) (s : List Bool) (P C ids : List Int) (w : World) (h : DiaF w base p k A n c L b g2 g3 g4 g6 s P C ids) :
    Calls Tryd.prog 153 #[.pointer (some ⟨p, 0, none⟩)] w fun e w' => e = .returned (.bool (flatB L)) ∧ Below w.heap.size w w' := by
  have hn400 := h.small
  have hLn := Lib.hid h.lets.len
  have hD := h.ranks.dia
  obtain ⟨m, hm⟩ : ∃ m, m = (axL L).length := ⟨_, rfl⟩
  have hmn : m ≤ n := by rw [hm, axL_len, hLn.out]; exact pN_le L n
  obtain ⟨N, hN⟩ : ∃ N, N = dartsN L := ⟨_, rfl⟩
  have hNe : N = 2 * n + 2 * m := by rw [hN, hm]; unfold dartsN; rw [hLn.out]
  have hNle : N ≤ 17592186044416 := by omega
  have c1 := hD.c1
  have c3 := hD.c3
  rw [← hm] at c3
  have HM := Lib.hid hm
  have HN := Lib.hid hN
  have HNE := Lib.hid hNe
  have hW : Hid (0 + (walksF (leftF L (axL L)) (List.range' 0 (N - 0)) (List.replicate N false)).length = (walksL L).length) := by
    show _ = _
    rw [Nat.zero_add, Nat.sub_zero, ← List.range_eq_range', hN]; rfl
  clear hm hN hNe hD
  go_enter Tryd.func153, Tryd.ntmps153
  go_wp2_with fail
  go_quiet (fail)
  generalize hwx : w.drewN nq = wx
  have hbx : Below w.heap.size w wx := by rw [← hwx]; exact below_drewN (Below.refl _ _) _
  have hzx : w.heap.size = wx.heap.size := by rw [← hwx]; rfl
  have hHZ := Lib.hid hzx
  clear hwx hzx
  go_wp2_with (at_make; refine makeBW rfl _ _ rfl N _ rfl rfl (by have := HNE.out; omega) hNle (Nat.le_refl _) ?_; rw [← hHZ.out]; intro ws hs0 hbs0' hzs)
  have hbs0 : Below w.heap.size w ws := hbx.trans hbs0'
  clear c1 c3 hbs0' hbx
  go_loopw [5, 6, 7, 25] (fun v5 _ _ v25 wr => ∃ (d q : Nat) (s' : List Bool), d ≤ N ∧ q ≤ d ∧ v25 = .int .i64 d ∧ v5 = .int .i64 q ∧ OwnB wr w.heap.size w.heap.size N s' ∧ Below w.heap.size w wr ∧ Hid (q + (walksF (leftF L (axL L)) (List.range' d (N - d)) s').length = (walksL L).length)) (fun _ _ _ v25 _ => N - (intOf v25).toNat)
  case atStart => exact ⟨0, 0, List.replicate N false, Nat.zero_le _, Nat.le_refl _, rfl, rfl, hs0, hbs0, hW⟩
  case round =>
    obtain ⟨d, q, s', hd, hqd, rfl, rfl, hs, hbw, HW⟩ := hrel
    clear hs0 hW hbs0
    by_cases hdN : d < N
    · have hcs := hs.cell hdN
      have i0 : (0 : Int) ≤ (d : Int) := by omega
      have i1 : (d : Int) < (N : Int) := by omega
      have i2 : (d : Int) < 2 * (n : Int) + 2 * (m : Int) := by have := HNE.out; omega
      cases hsd : sat s' d with
      | true =>
        rw [hsd] at hcs
        have HW' := Lib.hid (show q + (walksF (leftF L (axL L)) (List.range' (d + 1) (N - (d + 1))) s').length = (walksL L).length by
          rw [← HW.out, show N - d = N - (d + 1) + 1 by omega, wF_yes hsd])
        clear hsd HW
        go_wp2_with fail
        go_roundw
        case rel => exact ⟨d + 1, q, s', by omega, by omega, by go_num, rfl, hs, hbw, HW'⟩
        case measure => simp [intOf]; omega
      | false =>
        rw [hsd] at hcs
        have HSD := Lib.hid hsd
        have hHW := Lib.hid (show q + 1 + (walksF (leftF L (axL L)) (List.range' (d + 1) (N - (d + 1))) (walk1 (leftF L (axL L)) N s' d).2).length = (walksL L).length by
          rw [← HW.out, show N - d = N - (d + 1) + 1 by omega, wF_no hsd, hs.len]; simp; omega)
        clear hsd HW
        have hu0 : unN s' ≤ N := by rw [← hs.len]; exact unN_le s'
        have hlt5 : w.heap.size < wr.heap.size := hs.lt
        go_wp2_with fail
        obtain ⟨wo, rfl⟩ : ∃ wo : World, wo = wr := ⟨_, rfl⟩
        go_loopw [7] (fun v7 wi => ∃ (x k : Nat) (si : List Bool), x < N ∧ v7 = .int .i64 x ∧ OwnB wi w.heap.size w.heap.size N si ∧ Below w.heap.size w wi ∧ unN si ≤ k ∧ Hid ((walk1 (leftF L (axL L)) k si x).2 = (walk1 (leftF L (axL L)) N s' d).2)) (fun _ wi => unW wi w.heap.size)
        case atStart => exact ⟨d, N, s', hdN, rfl, hs, hbw, hu0, Lib.hid rfl⟩
        case round =>
          obtain ⟨x, k', si, hx, rfl, hsi, hbi, huk, HP⟩ := hrel
          have j0 : (0 : Int) ≤ (x : Int) := by omega
          have j1 : (x : Int) < (N : Int) := by omega
          have hcx := hsi.cell hx
          have hfx := hsi.frozen x
          cases hsx : sat si x with
          | true =>
            rw [hsx] at hcx
            have hHP := HP.out
            rw [w1_stop hsx] at hHP
            have hHW3 := Lib.hid (show q + 1 + (walksF (leftF L (axL L)) (List.range' (d + 1) (N - (d + 1))) si).length = (walksL L).length by
              rw [← hHW.out, ← hHP])
            clear hsx HP hHP hHW hs hbw
            go_wp2_with fail
            go_roundw
            case rel => exact ⟨d + 1, q + 1, si, by omega, by omega, by go_num, by go_num, hsi, hbi, hHW3⟩
            case measure => simp [intOf]; omega
          | false =>
            rw [hsx] at hcx
            obtain ⟨k', rfl⟩ : ∃ k'', k' = k'' + 1 := ⟨k' - 1, by have := unN_pos hsx; omega⟩
            have hus := unN_set hsx
            have hHP := HP.out
            rw [w1_step hsx] at hHP
            have HP2 := Lib.hid hHP
            clear hsx HP hHP
            have hsS := hsi.stored x true
            have hbS := hbi.setCell (p := ⟨w.heap.size, x, none⟩) (Nat.le_refl _) (.bool true)
            have hx' : leftF L (axL L) x < N := by rw [HN.out]; exact h.good.into (by rw [← HN.out]; exact hx)
            have hu1 := hsi.unW
            have hszS : (wr.setCell ⟨w.heap.size, x, none⟩ (.bool true)).heap.size = wr.heap.size := by simp
            have hHS := Lib.hid hszS
            clear hszS
            go_wp2_with fail
            refine (dia_left x base p k A n c L b g2 g3 g4 g6 s P C ids _ (h.next hbS) (by rw [← HN.out]; exact hx)).mono ?_
            rintro e w5 ⟨rfl, hb5⟩
            have hs5 := hsS.below hb5 hsS.lt
            have hb5' := below_chain hbS hb5 hbS.size
            have hu5 := hs5.unW
            clear hsS hbS hb5 hcx hfx hcs
            generalize leftF L (axL L) x = x' at hx' HP2 ⊢
            go_wp2_with fail
            go_roundw
            case rel => exact ⟨x', k', si.set x true, hx', rfl, hs5, hb5', by omega, HP2⟩
            case measure => simp only [hu5, hu1]; omega
    · have i3 : ¬ (d : Int) < 2 * (n : Int) + 2 * (m : Int) := by have := HNE.out; omega
      obtain rfl : N = d := by omega
      have hWs : q = (walksL L).length := by
        have := HW.out
        rw [Nat.sub_self] at this
        simpa [walksF] using this
      have HQ := Lib.hid hWs
      clear hWs HW
      have hF := h.next hbw
      have e1 := hF.ranks.dia.c3
      rw [← HM.out] at e1
      have e4 := hF.ranks.dia.c5
      have hl1 := (hF.vis.drew).run_len 3
      have hlen : ids.length = cN L n / 2 := by
        have h1 := hF.vis.len
        have h2 := hF.good.visits
        rw [hLn.out] at h2
        rw [h1, h2]
      have hcn := cN_le L n
      have hi1 : ids.length ≤ 1000 := by omega
      have hf := Lib.hid (show flatB L = decide ((q : Int) = (m : Int) + (ids.length : Int) + 2) by
        unfold flatB
        rw [← HQ.out, hlen, HM.out, axL_len, hLn.out, Bool.eq_iff_iff]
        simp only [beq_iff_eq, decide_eq_true_eq]
        omega)
      clear hlen hF
      go_wp2_with fail
      go_region
      all_goals
        go_wp2_with fail
        go_ret
        exact ⟨ret_bool (by rw [hf.out]; rfl), hbw.drew⟩
end Go.Proofs.YtkjcmppaapbabaaDoor
