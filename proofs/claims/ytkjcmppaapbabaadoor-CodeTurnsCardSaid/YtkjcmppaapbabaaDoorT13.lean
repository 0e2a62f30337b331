/-
  Contract: the program's Back. Conditions: the letters read.
-/
import Derived.Test.YtkjcmppaapbabaaDoorT12
namespace Go.Proofs.YtkjcmppaapbabaaDoor
open Go.RowKit
theorem la_rev {L : List Lt} {n i : Nat} (h : L.length = n) (hi : i < n) : la L.reverse i = la L (n - 1 - i) := by
  unfold la
  rw [List.getElem?_reverse (by omega), h]
set_option maxRecDepth 100000 in
set_option maxHeartbeats 6400000 in
theorem back_1 (p k : Nat) (A : Option Addr) (n c : Nat) (L : List Lt) (w : World) (hd : DiaN w p k A n c L) (hA : Lets w A n L) (hs : Tame (k : Int) L) :
    Calls Tryd.prog 91 #[.pointer (some ⟨p, 0, none⟩)] w (GivesL w (backL L)) := by
  have hle := hA.le
  have hLn := Lib.hid hA.len
  obtain ⟨d1, d2, d3, d4⟩ := hd
  have HD4 := Lib.hid d4
  have hn4 : n ≤ 400 := by have := hs.len; have := hA.len; omega
  have hRl : L.reverse.length = n := by simp [hLn.out]
  have HRL := Lib.hid hRl
  have HLA := Lib.hid (show ∀ i, i < n → la L.reverse i = la L (n - 1 - i) from fun i hi => la_rev hLn.out hi)
  have HBK := Lib.hid (show backL L = settleL L.reverse (fun i => !dwn L (n - 1 - i)) by unfold backL; rw [hLn.out])
  generalize hM : L.reverse = M at HRL HLA HBK
  have HM := Lib.hid hM
  clear d4 hs hM hRl
  go_enter Tryd.func91, Tryd.ntmps91
  go_wp2_with fail
  refine (clone_letters A n c L _ hA).mono ?_
  rintro e w1 ⟨A1, c1, rfl, hown, hb1⟩
  clear d1
  go_wp2_with fail
  refine (slices_reverseL w.heap.size A1 n c1 L w1 hown (by omega)).mono ?_
  rintro e w2 ⟨rfl, hown2, hg2⟩
  rw [HM.out] at hown2
  have hb2 : Below w.heap.size w w2 := hb1.trans ((Below.refl _ _).grown hg2 hb1.size (fun k hk => (hown.row.lt k hk).1))
  have hcap1 : n ≤ c1 := hown2.row.cap
  have hst : Hid (∀ i, i < 0 → (isP (la M i) && !dwn L (n - 1 - i)) = false) := Lib.hid (fun i hi => by omega)
  clear hown hb1 hg2
  go_wp2_with fail
  go_loop [4, 5, 16] (fun _ _ v16 => ∃ i : Nat, i ≤ n ∧ v16 = .int .i64 i ∧ Hid (∀ j, j < i → (isP (la M j) && !dwn L (n - 1 - j)) = false)) (fun _ _ v16 => n - (intOf v16).toNat)
  case atStart => exact ⟨0, Nat.zero_le _, rfl, hst⟩
  case round =>
    obtain ⟨i, hi, rfl, HN⟩ := hrel
    clear hst
    by_cases hlt : i < n
    · obtain ⟨gg, o, rfl, hgg, hx, hok⟩ := hown2.lets.at_ hlt
      obtain ⟨y0, y1, y2, y3, y4, y5⟩ := hx
      have i0 : (0 : Int) ≤ (i : Int) := by omega
      have i1 : (i : Int) < (n : Int) := by omega
      obtain ⟨q, hq⟩ : ∃ q : Nat, n - 1 - i = q := ⟨_, rfl⟩
      have hqi : (n : Int) - 1 - (i : Int) = (q : Int) := by omega
      have hqn : q < n := by omega
      have HQ := Lib.hid hq
      have HQI := Lib.hid hqi
      have hHL := HLA.out i hlt
      rw [hq] at hHL
      have HHL := Lib.hid hHL
      clear hq hqi hHL
      by_cases hk1 : (la M i).kind = 1
      · have q1 : ((la M i).kind == 1) = true := by simpa using hk1
        have hp1 : isP (la L q) = true := by rw [← HHL.out]; exact isP_t hk1
        obtain ⟨base, b, g2, g3, g4, g6, s, P, C, ids, hF⟩ := HD4.out (by omega)
        have hFr := hF.next hb2
        have hcs := hFr.ranks.down.cell hqn
        rw [hFr.ranks.downs q hp1] at hcs
        have d2c := hFr.ranks.dia.c2
        have hw0 := hb2.size
        have v1 : IntKind.i64.wrap ((n : Int) - 1) = (n : Int) - 1 := IntWalk.i64_in _ (by omega)
        have v2 : IntKind.i64.wrap ((n : Int) - 1 - (i : Int)) = (n : Int) - 1 - (i : Int) := IntWalk.i64_in _ (by omega)
        have j0 : (0 : Int) ≤ (n : Int) - 1 - (i : Int) := by omega
        have j1 : (n : Int) - 1 - (i : Int) < (n : Int) := by omega
        have j2 : ((n : Int) - 1 - (i : Int)).toNat = q := by have := HQI.out; omega
        cases hdi : dwn L q with
        | true =>
          rw [hdi] at hcs
          have HN1 := Lib.hid (show ∀ j, j < i + 1 → (isP (la M j) && !dwn L (n - 1 - j)) = false from fun j hj => by
            rcases Nat.decEq j i with e | e
            · exact HN.out j (by omega)
            · subst e; rw [HQ.out, hdi]; simp)
          have HJ2 := Lib.hid j2
          clear HN hk1 hdi hF hFr hp1
          go_wp2_with fail
          go_round
          case rel => exact ⟨i + 1, by omega, by go_num, HN1⟩
          case measure => simp [intOf]; omega
        | false =>
          rw [hdi] at hcs
          have HS := Lib.hid (settle_at (L := M) (d := fun i => !dwn L (n - 1 - i)) (k := i) HN.out (by show (isP (la M i) && !dwn L (n - 1 - i)) = true; rw [isP_t hk1, HQ.out, hdi]; rfl) (by rw [HRL.out]; exact hlt))
          have hrot := code_rotated i (some ⟨gg, o, none⟩) n c1 M w2 hown2.lets (by omega) hcap1
          have HROT := Lib.hid hrot
          clear HN hk1 hdi hF hFr hp1 hrot
          go_wp2_with fail
          refine HROT.out.mono ?_
          rintro e w5 ⟨A5, c5, rfl, hL5, hb5⟩
          have hL6 := hL5.mono hb2.size
          have hb6 := below_chain hb2 hb5 hb2.size
          go_wp2_with fail
          go_ret
          exact ⟨A5, n, c5, rfl, by rw [HBK.out, HS.out]; exact hL6, hb6⟩
      · have q1 : ((la M i).kind == 1) = false := by simpa using hk1
        have HN1 := Lib.hid (show ∀ j, j < i + 1 → (isP (la M j) && !dwn L (n - 1 - j)) = false from fun j hj => by
          rcases Nat.decEq j i with e | e
          · exact HN.out j (by omega)
          · subst e; rw [isP_f hk1]; rfl)
        clear HN hk1
        go_wp2_with fail
        go_round
        case rel => exact ⟨i + 1, by omega, by go_num, HN1⟩
        case measure => simp [intOf]; omega
    · have hin : i = n := by omega
      have HS := Lib.hid (settle_none (L := M) (d := fun i => !dwn L (n - 1 - i)) (fun j hj => HN.out j (by rw [HRL.out] at hj; omega)))
      have i1 : ¬ (i : Int) < (n : Int) := by omega
      clear hin HN
      go_wp2_with fail
      go_ret
      exact ⟨A1, n, c1, rfl, by rw [HBK.out, HS.out]; exact hown2, hb2⟩
set_option maxRecDepth 100000 in
set_option maxHeartbeats 6400000 in
theorem changed_back (K : Int) (A : Option Addr) (n c : Nat) (L : List Lt) (w : World) (hA : Lets w A n L) (hc : n ≤ c) :
    Calls Tryd.prog 90 #[.agg #[.int .i64 K, .slice A n c], .func (.func 91) #[] #[]] w (GivesCE w (keepK K L) (keepL K L (backL L)) (checkE K L)) := by
  have hbc0 := build_code0
  have hbc2 := build_code2
  have hbx : Boxed w ((w.alloc (.cells #[.int .i64 K, .slice A n c] 24)).alloc (.cells #[.int .i64 0, .slice none 0 0] 24)) K A n c := (Boxed.refl w K A n c).alloc _
  have hR0 : Blk ((w.alloc (.cells #[.int .i64 K, .slice A n c] 24)).alloc (.cells #[.int .i64 0, .slice none 0 0] 24)) (w.heap.size + 1) 24 #[.int .i64 0, .slice none 0 0] := heap_alloc2_new w _ _
  obtain ⟨E, hE⟩ : ∃ E, checkE K L = E := ⟨_, rfl⟩
  have HE := Lib.hid hE
  clear hE
  go_enter Tryd.func90, Tryd.ntmps90
  go_wp2_with fail
  generalize (w.alloc (.cells #[.int .i64 K, .slice A n c] 24)).alloc (.cells #[.int .i64 0, .slice none 0 0] 24) = X at hbx hR0 ⊢
  refine (code_read K A n c L _ (hA.below hbx.below)).mono ?_
  rintro e w1 ⟨v, rfl, hb1, hok⟩
  have hX := hR0.lt
  have hsX := hb1.size
  have hR1 := hR0.below hb1 hX
  have hb2 := hbx.more hb1
  have x0 := hb2.c0
  have r0 : w1.cell? ⟨w.heap.size + 1, 0, none⟩ = some (.int .i64 0) := (hR1.cell 0).trans rfl
  have r1 : w1.cell? ⟨w.heap.size + 1, 1, none⟩ = some (.slice none 0 0) := (hR1.cell 1).trans rfl
  have z0 := hR1.frozen 0
  have z1 := hR1.frozen 1
  rw [HE.out]
  by_cases hz : E = 0
  · subst hz
    obtain ⟨p, rfl, k, rfl, hk40, hn400, hp, hcase⟩ := hok HE.out
    have HSM := Lib.hid (tame_of_check HE.out)
    have hdn : DiaN w1 p k A n c L := by
      rcases hcase with ⟨h0, hd⟩ | ⟨_, base, b, g2, g3, g4, g6, s, P, C, ids, _, hF⟩
      · exact ⟨hd.c1, hd.lt, hc, fun h => by omega⟩
      · exact ⟨hF.ranks.dia.c1, hF.ranks.dia.lt, hc, fun _ => ⟨base, b, g2, g3, g4, g6, s, P, C, ids, hF⟩⟩
    have hcl : ∀ wx, Below w1.heap.size w1 wx → Calls Tryd.prog 91 #[.pointer (some ⟨p, 0, none⟩)] wx (GivesL wx (backL L)) := fun wx h => back_1 p k A n c L wx (hdn.next h) (hA.below (hb2.more h).below) HSM.out
    have k0 : ∀ wx, Below w1.heap.size w1 wx → wx.cell? ⟨w.heap.size, 0, none⟩ = some (.int .i64 (k : Int)) := fun wx h => (hb2.more h).c0
    have k1 : ∀ wx a1 a2, Below w1.heap.size w1 wx → ((wx.setCell ⟨w.heap.size + 1, 0, none⟩ a1).setCell ⟨w.heap.size + 1, 1, none⟩ a2).cell? ⟨w.heap.size, 0, none⟩ = some (.int .i64 (k : Int)) := fun wx a1 a2 h => by
      rw [World.cell?_setCell_other _ _ _ _ (by intro e; injection e with e; omega), World.cell?_setCell_other _ _ _ _ (by intro e; injection e with e; omega)]
      exact (hb2.more h).c0
    have HCL := Lib.hid hcl
    have KP := Lib.hid k0
    have KS := Lib.hid k1
    have HW := hb2.below
    have hlw : w.heap.size + 1 < w1.heap.size := hR1.lt
    clear hcl k0 k1 hok hcase hdn hb2 hbx hR0 hb1 r0 r1 z0 z1
    go_wp2_with fail
    first
      | go_region_held3 (fun wx => wx.cell? ⟨w.heap.size, 0, none⟩ = some (.int .i64 (k : Int))) (first | assumption | exact KP.out _ (Below.refl _ _).drew | exact KP.out _ (by assumption) | exact KS.out _ _ _ (by assumption))
          ((go_at_call 91; refine (HCL.out _ (Below.refl _ _).drew).mono ?_; rintro e wy ⟨A2, n2, c2, rfl, hL2, hb3⟩; have hbz : Below w1.heap.size w1 wy := below_chain (Below.refl w1.heap.size w1).drew hb3 (Nat.le_refl _); have u0 : wy.cell? ⟨w.heap.size + 1, 0, none⟩ = some (.int .i64 0) := ((hR1.below hbz hlw).cell 0).trans rfl; have u1 : wy.cell? ⟨w.heap.size + 1, 1, none⟩ = some (.slice none 0 0) := ((hR1.below hbz hlw).cell 1).trans rfl; have u2 := (hR1.below hbz hlw).frozen 0; have u3 := (hR1.below hbz hlw).frozen 1))
      | fail
    all_goals
      have hRy := hR1.below (by assumption : Below w1.heap.size w1 wy) hlw
      have hG := copy_ends (w := w) (X := w1) (K := (k : Int)) hRy (by assumption : Below w1.heap.size w1 wy) HW hlw hL2
      clear x0 u0 u1 u2 u3 hRy
      go_wp2_with fail
      (try simp only [Exit.inBlock, Exit.then])
      refine ret_cellT rfl rfl rfl hG.1 Tryd.underlying24 rfl (by kernel_rfl) rfl ?_
      exact ⟨A2, n2, c2, by rw [keepK_ok HE.out, HE.out]; rfl, by rw [keepL_ok HE.out]; exact hG.2.1, hG.2.2⟩
  · have q : (E != 0) = true := by simpa using hz
    have hS : Blk ((w1.setCell ⟨w.heap.size + 1, 0, none⟩ (.int .i64 0)).setCell ⟨w.heap.size + 1, 1, none⟩ (.slice none 0 0)) (w.heap.size + 1) 24 #[.int .i64 0, .slice none 0 0] := (hR1.set_ 0 _).set_ 1 _
    have hbS := (hb2.below.setCell (p := ⟨w.heap.size + 1, 0, none⟩) (by simp) (.int .i64 0)).setCell (p := ⟨w.heap.size + 1, 1, none⟩) (by simp) (.slice none 0 0)
    have HZ := Lib.hid hz
    clear hz hok hR0 hR1 hb1 hbx
    go_wp2_with fail
    (try simp only [Exit.inBlock, Exit.then])
    refine ret_cellT rfl rfl rfl hS Tryd.underlying24 rfl (by kernel_rfl) rfl ?_
    exact ⟨none, 0, 0, by rw [keepK_no (by rw [HE.out]; exact HZ.out), HE.out]; rfl, by rw [keepL_no (by rw [HE.out]; exact HZ.out)]; exact OwnL.nil _ _, hbS⟩
set_option maxRecDepth 100000 in
set_option maxHeartbeats 3200000 in
theorem code_back (K : Int) (A : Option Addr) (n c : Nat) (L : List Lt) (w : World) (hA : Lets w A n L) (hc : n ≤ c) :
    Calls Tryd.prog 41 #[.agg #[.int .i64 K, .slice A n c]] w (GivesCE w (keepK K L) (keepL K L (backL L)) (checkE K L)) := by
  have hbx : Boxed w ((w.alloc (.cells #[.int .i64 K, .slice A n c] 24)).alloc (.cells #[.int .i64 0, .slice none 0 0] 24)) K A n c := (Boxed.refl w K A n c).alloc _
  have hR0 : Blk ((w.alloc (.cells #[.int .i64 K, .slice A n c] 24)).alloc (.cells #[.int .i64 0, .slice none 0 0] 24)) (w.heap.size + 1) 24 #[.int .i64 0, .slice none 0 0] := heap_alloc2_new w _ _
  obtain ⟨E, hE⟩ : ∃ E, checkE K L = E := ⟨_, rfl⟩
  obtain ⟨K2, hK2⟩ : ∃ K2 : Int, keepK K L = K2 := ⟨_, rfl⟩
  obtain ⟨M, hM⟩ : ∃ M : List Lt, keepL K L (backL L) = M := ⟨_, rfl⟩
  have hch := fun wx (h : Lets wx A n L) => changed_back K A n c L wx h hc
  rw [hE, hK2, hM] at hch ⊢
  have HCH := Lib.hid hch
  clear hch hE hK2 hM
  go_enter Tryd.func41, Tryd.ntmps41
  go_wp2_with fail
  generalize (w.alloc (.cells #[.int .i64 K, .slice A n c] 24)).alloc (.cells #[.int .i64 0, .slice none 0 0] 24) = X at hbx hR0 ⊢
  refine (HCH.out _ (hA.below hbx.below)).mono ?_
  rintro e w1 ⟨A1, n1, c1, rfl, hL1, hb1⟩
  have hX := hR0.lt
  have hR1 := hR0.below hb1 hX
  have r0 : w1.cell? ⟨w.heap.size + 1, 0, none⟩ = some (.int .i64 0) := (hR1.cell 0).trans rfl
  have r1 : w1.cell? ⟨w.heap.size + 1, 1, none⟩ = some (.slice none 0 0) := (hR1.cell 1).trans rfl
  have z0 := hR1.frozen 0
  have z1 := hR1.frozen 1
  have hG := copy_ends (w := w) (X := X) (K := K2) hR1 hb1 hbx.below hX hL1
  clear hR0 hR1 hbx hb1
  go_wp2_with fail
  (try simp only [Exit.inBlock, Exit.then])
  refine ret_cellT rfl rfl rfl hG.1 Tryd.underlying24 rfl (by kernel_rfl) rfl ?_
  exact ⟨A1, n1, c1, rfl, hG.2.1, hG.2.2⟩
end Go.Proofs.YtkjcmppaapbabaaDoor
