/-
  Contract: slices.Reverse of letters. Condition: an own slice.
  Contract: the program's Back. Conditions: the letters read.
  Contract: the document's Back. Conditions: the letters read and are tame.
-/
import Derived.Test.YtkjcmppaapbabaaDoorJK
import Derived.Test.YtkjcmppaapbabaaDoorRev
import Derived.Test.YtkjcmppaapbabaaDoorJO
namespace Go.Proofs.YtkjcmppaapbabaaDoor
section
open Go.RowKit
/-- A whole letter is stored. -/
theorem OwnL.put6 {w : World} {base g off n c : Nat} {L : List Lt} (h : OwnL w base (some ⟨g, off, none⟩) n c L) {j : Nat} {x y : Lt} (hx : L[j]? = some x) (hy : LtOk y) :
    OwnL ((((((w.setCell ⟨g, off + j * 6, none⟩ (.int .i64 y.kind)).setCell ⟨g, off + j * 6 + 1, none⟩ (.int .i64 y.gate)).setCell ⟨g, off + j * 6 + 2, none⟩ (.int .i64 y.rank)).setCell ⟨g, off + j * 6 + 3, none⟩ (.int .i64 y.id)).setCell ⟨g, off + j * 6 + 4, none⟩ (.int .i64 y.sign)).setCell ⟨g, off + j * 6 + 5, none⟩ (.bool y.over)) base (some ⟨g, off, none⟩) n c (L.set j y) := by
  have hxo := h.fits x (List.mem_of_getElem? hx)
  have hl : j < L.length := (List.getElem?_eq_some_iff.1 hx).1
  have hs : ∀ z : Lt, (L.set j z)[j]? = some z := fun z => List.getElem?_set_self hl
  have h1 := h.put (i := 0) (u := .int .i64 y.kind) (x' := ⟨y.kind, x.gate, x.rank, x.id, x.sign, x.over⟩) hx (by omega) rfl ⟨hy.kind, hxo.gate, hxo.rank, hxo.id, hxo.sign⟩ rfl
  have h2 := h1.put (i := 1) (u := .int .i64 y.gate) (x' := ⟨y.kind, y.gate, x.rank, x.id, x.sign, x.over⟩) (hs _) (by omega) rfl ⟨hy.kind, hy.gate, hxo.rank, hxo.id, hxo.sign⟩ rfl
  rw [List.set_set] at h2
  have h3 := h2.put (i := 2) (u := .int .i64 y.rank) (x' := ⟨y.kind, y.gate, y.rank, x.id, x.sign, x.over⟩) (hs _) (by omega) rfl ⟨hy.kind, hy.gate, hy.rank, hxo.id, hxo.sign⟩ rfl
  rw [List.set_set] at h3
  have h4 := h3.put (i := 3) (u := .int .i64 y.id) (x' := ⟨y.kind, y.gate, y.rank, y.id, x.sign, x.over⟩) (hs _) (by omega) rfl ⟨hy.kind, hy.gate, hy.rank, hy.id, hxo.sign⟩ rfl
  rw [List.set_set] at h4
  have h5 := h4.put (i := 4) (u := .int .i64 y.sign) (x' := ⟨y.kind, y.gate, y.rank, y.id, y.sign, x.over⟩) (hs _) (by omega) rfl ⟨hy.kind, hy.gate, hy.rank, hy.id, hy.sign⟩ rfl
  rw [List.set_set] at h5
  have h6 := h5.put (i := 5) (u := .bool y.over) (x' := ⟨y.kind, y.gate, y.rank, y.id, y.sign, y.over⟩) (hs _) (by omega) rfl ⟨hy.kind, hy.gate, hy.rank, hy.id, hy.sign⟩ rfl
  rw [List.set_set] at h6
  exact h6
set_option maxRecDepth 100000 in
set_option maxHeartbeats 6400000 in
theorem slices_reverseL (base : Nat) (A : Option Addr) (n c : Nat) (L : List Lt) (w : World) (hA : OwnL w base A n c L) (hle : n ≤ 1000000) :
    Calls Tryd.prog 129 #[.slice A n c] w fun e w' => e = .returned (.tuple #[]) ∧ OwnL w' base A n c L.reverse ∧ w.grownBy w' (blk A) := by
  have HL := Lib.hid hA.len
  go_enter Tryd.func129, Tryd.ntmps129
  go_wp2_with fail
  go_loopw [2, 3] (fun i j wr => ∃ (k : Nat) (P : List Lt), 2 * k ≤ n + 1 ∧ i = .int .i64 k ∧ j = .int .i64 ((n : Int) - 1 - k) ∧ OwnL wr base A n c P ∧ w.grownBy wr (blk A) ∧ Hid (Swapped L P k)) (fun i _ _ => n - (intOf i).toNat)
  case atStart => exact ⟨0, L, by omega, rfl, by go_num, hA, World.grownBy.refl _ _, swapped_zero L⟩
  case round =>
    obtain ⟨k, P, hk, rfl, rfl, hown, hg, HP⟩ := hrel
    by_cases hlt : 2 * k + 1 < n
    · obtain ⟨g, off, rfl, hg1, hg2⟩ := hown.row.form (by omega)
      obtain ⟨j, hj⟩ : ∃ j : Nat, (n : Int) - 1 - k = j := ⟨n - 1 - k, by omega⟩
      have hPl : P.length = n := hown.len
      have hkj : k < j := by omega
      have hjn : j < n := by omega
      have hx : P[k]? = some (P[k]'(by omega)) := List.getElem?_eq_getElem _
      have hy : P[j]? = some (P[j]'(by omega)) := List.getElem?_eq_getElem _
      obtain ⟨x, hxe⟩ : ∃ x, x = P[k]'(by omega) := ⟨_, rfl⟩
      obtain ⟨y, hye⟩ : ∃ y, y = P[j]'(by omega) := ⟨_, rfl⟩
      rw [← hxe] at hx
      rw [← hye] at hy
      have hxk : la P k = x := la_of hx
      have hyk : la P j = y := la_of hy
      have cx := (hown.lets.also (k := k) (by omega)).1
      have cy := (hown.lets.also (k := j) hjn).1
      rw [hxk] at cx
      rw [hyk] at cy
      obtain ⟨a0, a1, a2, a3, a4, a5⟩ := cx
      obtain ⟨b0, b1, b2, b3, b4, b5⟩ := cy
      clear hxk hyk
      have HX := Lib.hid hx
      have HY := Lib.hid hy
      have HPL := Lib.hid hPl
      clear hx hy hxe hye hPl
      rw [hj]
      have HJ := Lib.hid hj
      clear hj
      have hcap := hown.row.cap
      have f0 : wr.frozen? ⟨g, off + k * 6, none⟩ = false := hown.row.free (j := k * 6 + 0) (by omega)
      have e0 : wr.frozen? ⟨g, off + j * 6, none⟩ = false := hown.row.free (j := j * 6 + 0) (by omega)
      have f1 : wr.frozen? ⟨g, off + k * 6 + 1, none⟩ = false := hown.row.free (j := k * 6 + 1) (by omega)
      have e1 : wr.frozen? ⟨g, off + j * 6 + 1, none⟩ = false := hown.row.free (j := j * 6 + 1) (by omega)
      have f2 : wr.frozen? ⟨g, off + k * 6 + 2, none⟩ = false := hown.row.free (j := k * 6 + 2) (by omega)
      have e2 : wr.frozen? ⟨g, off + j * 6 + 2, none⟩ = false := hown.row.free (j := j * 6 + 2) (by omega)
      have f3 : wr.frozen? ⟨g, off + k * 6 + 3, none⟩ = false := hown.row.free (j := k * 6 + 3) (by omega)
      have e3 : wr.frozen? ⟨g, off + j * 6 + 3, none⟩ = false := hown.row.free (j := j * 6 + 3) (by omega)
      have f4 : wr.frozen? ⟨g, off + k * 6 + 4, none⟩ = false := hown.row.free (j := k * 6 + 4) (by omega)
      have e4 : wr.frozen? ⟨g, off + j * 6 + 4, none⟩ = false := hown.row.free (j := j * 6 + 4) (by omega)
      have f5 : wr.frozen? ⟨g, off + k * 6 + 5, none⟩ = false := hown.row.free (j := k * 6 + 5) (by omega)
      have e5 : wr.frozen? ⟨g, off + j * 6 + 5, none⟩ = false := hown.row.free (j := j * 6 + 5) (by omega)
      have hkn : k < n := by omega
      have hne : ¬ k = j := by omega
      have hne' : ¬ j = k := by omega
      go_wp2_with fail
      go_region
      have hx3 := hown.fits x (List.mem_of_getElem? HX.out)
      have hy3 := hown.fits y (List.mem_of_getElem? HY.out)
      have hown1 := hown.put6 HX.out hy3
      have hown2 := hown1.put6 (j := j) (x := y) (by rw [List.getElem?_set_ne hne]; exact HY.out) hx3
      have hown' := hown2.next (Below.refl _ _).drew
      have hg' := grown_drawn (grown_set (grown_set (grown_set (grown_set (grown_set (grown_set (grown_set (grown_set (grown_set (grown_set (grown_set (grown_set (hg) (off + k * 6) (.int .i64 y.kind)) (off + k * 6 + 1) (.int .i64 y.gate)) (off + k * 6 + 2) (.int .i64 y.rank)) (off + k * 6 + 3) (.int .i64 y.id)) (off + k * 6 + 4) (.int .i64 y.sign)) (off + k * 6 + 5) (.bool y.over)) (off + j * 6) (.int .i64 x.kind)) (off + j * 6 + 1) (.int .i64 x.gate)) (off + j * 6 + 2) (.int .i64 x.rank)) (off + j * 6 + 3) (.int .i64 x.id)) (off + j * 6 + 4) (.int .i64 x.sign)) (off + j * 6 + 5) (.bool x.over)) 1
      have HP' : Hid (Swapped L ((P.set k y).set j x) (k + 1)) := by
        have e : j = L.length - 1 - k := by have := HJ.out; have := HL.out; omega
        subst e
        exact swapped_succ HP.out hkj HX.out HY.out
      have hj1 := HJ.out
      clear hown hown1 hown2 hg HP HX HY HPL HJ a0 a1 a2 a3 a4 a5 b0 b1 b2 b3 b4 b5 f0 f1 f2 f3 f4 f5 e0 e1 e2 e3 e4 e5 hx3 hy3
      have hji : (j : Int) - 1 = (n : Int) - 1 - (k + 1 : Nat) := by omega
      have HJI := Lib.hid hji
      clear hji hj1
      go_wp2_with fail
      go_roundw
      case rel => exact ⟨k + 1, _, by omega, by go_num, by rw [HJI.out], hown', hg', HP'⟩
      case measure => simp [intOf]; omega
    · go_wp2_with fail
      go_end0
      have e := swapped_end HP.out (by have := HL.out; omega)
      subst e
      exact ⟨rfl, hown, hg⟩
end

section
open Go.RowKit
theorem la_rev {L : List Lt} {n i : Nat} (h : L.length = n) (hi : i < n) : la L.reverse i = la L (n - 1 - i) := by
  unfold la
  rw [List.getElem?_reverse (by omega), h]
set_option maxRecDepth 100000 in
set_option maxHeartbeats 6400000 in
theorem back_1 (p k : Nat) (A : Option Addr) (n c : Nat) (L : List Lt) (w : World) (hd : DiaN w p k A n c L) (hA : Lets w A n L) (hs : Tame (k : Int) L) :
    Calls Tryd.prog 91 #[.pointer (some ⟨p, 0, none⟩)] w (GivesL w (backL L)) := by
  have hle := hA.le
  have hLn := Lib.hid hA.len
  obtain ⟨d1, d2, d3, d4⟩ := hd
  have HD4 := Lib.hid d4
  have hn4 : n ≤ 400 := by have := hs.len; have := hA.len; omega
  have hRl : L.reverse.length = n := by simp [hLn.out]
  have HRL := Lib.hid hRl
  have HLA := Lib.hid (show ∀ i, i < n → la L.reverse i = la L (n - 1 - i) from fun i hi => la_rev hLn.out hi)
  have HBK := Lib.hid (show backL L = settleL L.reverse (fun i => !dwn L (n - 1 - i)) by unfold backL; rw [hLn.out])
  generalize hM : L.reverse = M at HRL HLA HBK
  have HM := Lib.hid hM
  clear d4 hs hM hRl
  go_enter Tryd.func91, Tryd.ntmps91
  go_wp2_with fail
  refine (clone_letters A n c L _ hA).mono ?_
  rintro e w1 ⟨A1, c1, rfl, hown, hb1⟩
  clear d1
  go_wp2_with fail
  refine (slices_reverseL w.heap.size A1 n c1 L w1 hown (by omega)).mono ?_
  rintro e w2 ⟨rfl, hown2, hg2⟩
  rw [HM.out] at hown2
  have hb2 : Below w.heap.size w w2 := hb1.trans ((Below.refl _ _).grown hg2 hb1.size (fun k hk => (hown.row.lt k hk).1))
  have hcap1 : n ≤ c1 := hown2.row.cap
  have hst : Hid (∀ i, i < 0 → (isP (la M i) && !dwn L (n - 1 - i)) = false) := Lib.hid (fun i hi => by omega)
  clear hown hb1 hg2
  go_wp2_with fail
  go_loop [4, 5, 16] (fun _ _ v16 => ∃ i : Nat, i ≤ n ∧ v16 = .int .i64 i ∧ Hid (∀ j, j < i → (isP (la M j) && !dwn L (n - 1 - j)) = false)) (fun _ _ v16 => n - (intOf v16).toNat)
  case atStart => exact ⟨0, Nat.zero_le _, rfl, hst⟩
  case round =>
    obtain ⟨i, hi, rfl, HN⟩ := hrel
    clear hst
    by_cases hlt : i < n
    · obtain ⟨gg, o, rfl, hgg, hx, hok⟩ := hown2.lets.at_ hlt
      obtain ⟨y0, y1, y2, y3, y4, y5⟩ := hx
      have i0 : (0 : Int) ≤ (i : Int) := by omega
      have i1 : (i : Int) < (n : Int) := by omega
      obtain ⟨q, hq⟩ : ∃ q : Nat, n - 1 - i = q := ⟨_, rfl⟩
      have hqi : (n : Int) - 1 - (i : Int) = (q : Int) := by omega
      have hqn : q < n := by omega
      have HQ := Lib.hid hq
      have HQI := Lib.hid hqi
      have hHL := HLA.out i hlt
      rw [hq] at hHL
      have HHL := Lib.hid hHL
      clear hq hqi hHL
      by_cases hk1 : (la M i).kind = 1
      · have q1 : ((la M i).kind == 1) = true := by simpa using hk1
        have hp1 : isP (la L q) = true := by rw [← HHL.out]; exact isP_t hk1
        obtain ⟨base, b, g2, g3, g4, g6, s, P, C, ids, hF⟩ := HD4.out (by omega)
        have hFr := hF.next hb2
        have hcs := hFr.ranks.down.cell hqn
        rw [hFr.ranks.downs q hp1] at hcs
        have d2c := hFr.ranks.dia.c2
        have hw0 := hb2.size
        have v1 : IntKind.i64.wrap ((n : Int) - 1) = (n : Int) - 1 := IntWalk.i64_in _ (by omega)
        have v2 : IntKind.i64.wrap ((n : Int) - 1 - (i : Int)) = (n : Int) - 1 - (i : Int) := IntWalk.i64_in _ (by omega)
        have j0 : (0 : Int) ≤ (n : Int) - 1 - (i : Int) := by omega
        have j1 : (n : Int) - 1 - (i : Int) < (n : Int) := by omega
        have j2 : ((n : Int) - 1 - (i : Int)).toNat = q := by have := HQI.out; omega
        cases hdi : dwn L q with
        | true =>
          rw [hdi] at hcs
          have HN1 := Lib.hid (show ∀ j, j < i + 1 → (isP (la M j) && !dwn L (n - 1 - j)) = false from fun j hj => by
            rcases Nat.decEq j i with e | e
            · exact HN.out j (by omega)
            · subst e; rw [HQ.out, hdi]; simp)
          have HJ2 := Lib.hid j2
          clear HN hk1 hdi hF hFr hp1
          go_wp2_with fail
          go_round
          case rel => exact ⟨i + 1, by omega, by go_num, HN1⟩
          case measure => simp [intOf]; omega
        | false =>
          rw [hdi] at hcs
          have HS := Lib.hid (settle_at (L := M) (d := fun i => !dwn L (n - 1 - i)) (k := i) HN.out (by show (isP (la M i) && !dwn L (n - 1 - i)) = true; rw [isP_t hk1, HQ.out, hdi]; rfl) (by rw [HRL.out]; exact hlt))
          have hrot := code_rotated i (some ⟨gg, o, none⟩) n c1 M w2 hown2.lets (by omega) hcap1
          have HROT := Lib.hid hrot
          clear HN hk1 hdi hF hFr hp1 hrot
          go_wp2_with fail
          refine HROT.out.mono ?_
          rintro e w5 ⟨A5, c5, rfl, hL5, hb5⟩
          have hL6 := hL5.mono hb2.size
          have hb6 := below_chain hb2 hb5 hb2.size
          go_wp2_with fail
          go_ret
          exact ⟨A5, n, c5, rfl, by rw [HBK.out, HS.out]; exact hL6, hb6⟩
      · have q1 : ((la M i).kind == 1) = false := by simpa using hk1
        have HN1 := Lib.hid (show ∀ j, j < i + 1 → (isP (la M j) && !dwn L (n - 1 - j)) = false from fun j hj => by
          rcases Nat.decEq j i with e | e
          · exact HN.out j (by omega)
          · subst e; rw [isP_f hk1]; rfl)
        clear HN hk1
        go_wp2_with fail
        go_round
        case rel => exact ⟨i + 1, by omega, by go_num, HN1⟩
        case measure => simp [intOf]; omega
    · have hin : i = n := by omega
      have HS := Lib.hid (settle_none (L := M) (d := fun i => !dwn L (n - 1 - i)) (fun j hj => HN.out j (by rw [HRL.out] at hj; omega)))
      have i1 : ¬ (i : Int) < (n : Int) := by omega
      clear hin HN
      go_wp2_with fail
      go_ret
      exact ⟨A1, n, c1, rfl, by rw [HBK.out, HS.out]; exact hown2, hb2⟩
set_option maxRecDepth 100000 in
set_option maxHeartbeats 6400000 in
theorem changed_back (K : Int) (A : Option Addr) (n c : Nat) (L : List Lt) (w : World) (hA : Lets w A n L) (hc : n ≤ c) :
    Calls Tryd.prog 90 #[.agg #[.int .i64 K, .slice A n c], .func (.func 91) #[] #[]] w (GivesCE w (keepK K L) (keepL K L (backL L)) (checkE K L)) := by
  have hbc0 := build_code0
  have hbc2 := build_code2
  have hbx : Boxed w ((w.alloc (.cells #[.int .i64 K, .slice A n c] 24)).alloc (.cells #[.int .i64 0, .slice none 0 0] 24)) K A n c := (Boxed.refl w K A n c).alloc _
  have hR0 : Blk ((w.alloc (.cells #[.int .i64 K, .slice A n c] 24)).alloc (.cells #[.int .i64 0, .slice none 0 0] 24)) (w.heap.size + 1) 24 #[.int .i64 0, .slice none 0 0] := heap_alloc2_new w _ _
  obtain ⟨E, hE⟩ : ∃ E, checkE K L = E := ⟨_, rfl⟩
  have HE := Lib.hid hE
  clear hE
  go_enter Tryd.func90, Tryd.ntmps90
  go_wp2_with fail
  generalize (w.alloc (.cells #[.int .i64 K, .slice A n c] 24)).alloc (.cells #[.int .i64 0, .slice none 0 0] 24) = X at hbx hR0 ⊢
  refine (code_read K A n c L _ (hA.below hbx.below)).mono ?_
  rintro e w1 ⟨v, rfl, hb1, hok⟩
  have hX := hR0.lt
  have hsX := hb1.size
  have hR1 := hR0.below hb1 hX
  have hb2 := hbx.more hb1
  have x0 := hb2.c0
  have r0 : w1.cell? ⟨w.heap.size + 1, 0, none⟩ = some (.int .i64 0) := (hR1.cell 0).trans rfl
  have r1 : w1.cell? ⟨w.heap.size + 1, 1, none⟩ = some (.slice none 0 0) := (hR1.cell 1).trans rfl
  have z0 := hR1.frozen 0
  have z1 := hR1.frozen 1
  rw [HE.out]
  by_cases hz : E = 0
  · subst hz
    obtain ⟨p, rfl, k, rfl, hk40, hn400, hp, hcase⟩ := hok HE.out
    have HSM := Lib.hid (tame_of_check HE.out)
    have hdn : DiaN w1 p k A n c L := by
      rcases hcase with ⟨h0, hd⟩ | ⟨_, base, b, g2, g3, g4, g6, s, P, C, ids, _, hF⟩
      · exact ⟨hd.c1, hd.lt, hc, fun h => by omega⟩
      · exact ⟨hF.ranks.dia.c1, hF.ranks.dia.lt, hc, fun _ => ⟨base, b, g2, g3, g4, g6, s, P, C, ids, hF⟩⟩
    have hcl : ∀ wx, Below w1.heap.size w1 wx → Calls Tryd.prog 91 #[.pointer (some ⟨p, 0, none⟩)] wx (GivesL wx (backL L)) := fun wx h => back_1 p k A n c L wx (hdn.next h) (hA.below (hb2.more h).below) HSM.out
    have k0 : ∀ wx, Below w1.heap.size w1 wx → wx.cell? ⟨w.heap.size, 0, none⟩ = some (.int .i64 (k : Int)) := fun wx h => (hb2.more h).c0
    have k1 : ∀ wx a1 a2, Below w1.heap.size w1 wx → ((wx.setCell ⟨w.heap.size + 1, 0, none⟩ a1).setCell ⟨w.heap.size + 1, 1, none⟩ a2).cell? ⟨w.heap.size, 0, none⟩ = some (.int .i64 (k : Int)) := fun wx a1 a2 h => by
      rw [World.cell?_setCell_other _ _ _ _ (by intro e; injection e with e; omega), World.cell?_setCell_other _ _ _ _ (by intro e; injection e with e; omega)]
      exact (hb2.more h).c0
    have HCL := Lib.hid hcl
    have KP := Lib.hid k0
    have KS := Lib.hid k1
    have HW := hb2.below
    have hlw : w.heap.size + 1 < w1.heap.size := hR1.lt
    clear hcl k0 k1 hok hcase hdn hb2 hbx hR0 hb1 r0 r1 z0 z1
    go_wp2_with fail
    first
      | go_region_held3 (fun wx => wx.cell? ⟨w.heap.size, 0, none⟩ = some (.int .i64 (k : Int))) (first | assumption | exact KP.out _ (Below.refl _ _).drew | exact KP.out _ (by assumption) | exact KS.out _ _ _ (by assumption))
          ((go_at_call 91; refine (HCL.out _ (Below.refl _ _).drew).mono ?_; rintro e wy ⟨A2, n2, c2, rfl, hL2, hb3⟩; have hbz : Below w1.heap.size w1 wy := below_chain (Below.refl w1.heap.size w1).drew hb3 (Nat.le_refl _); have u0 : wy.cell? ⟨w.heap.size + 1, 0, none⟩ = some (.int .i64 0) := ((hR1.below hbz hlw).cell 0).trans rfl; have u1 : wy.cell? ⟨w.heap.size + 1, 1, none⟩ = some (.slice none 0 0) := ((hR1.below hbz hlw).cell 1).trans rfl; have u2 := (hR1.below hbz hlw).frozen 0; have u3 := (hR1.below hbz hlw).frozen 1))
      | fail
    all_goals
      have hRy := hR1.below (by assumption : Below w1.heap.size w1 wy) hlw
      have hG := copy_ends (w := w) (X := w1) (K := (k : Int)) hRy (by assumption : Below w1.heap.size w1 wy) HW hlw hL2
      clear x0 u0 u1 u2 u3 hRy
      go_wp2_with fail
      (try simp only [Exit.inBlock, Exit.then])
      refine ret_cellT rfl rfl rfl hG.1 Tryd.underlying24 rfl (by kernel_rfl) rfl ?_
      exact ⟨A2, n2, c2, by rw [keepK_ok HE.out, HE.out]; rfl, by rw [keepL_ok HE.out]; exact hG.2.1, hG.2.2⟩
  · have q : (E != 0) = true := by simpa using hz
    have hS : Blk ((w1.setCell ⟨w.heap.size + 1, 0, none⟩ (.int .i64 0)).setCell ⟨w.heap.size + 1, 1, none⟩ (.slice none 0 0)) (w.heap.size + 1) 24 #[.int .i64 0, .slice none 0 0] := (hR1.set_ 0 _).set_ 1 _
    have hbS := (hb2.below.setCell (p := ⟨w.heap.size + 1, 0, none⟩) (by simp) (.int .i64 0)).setCell (p := ⟨w.heap.size + 1, 1, none⟩) (by simp) (.slice none 0 0)
    have HZ := Lib.hid hz
    clear hz hok hR0 hR1 hb1 hbx
    go_wp2_with fail
    (try simp only [Exit.inBlock, Exit.then])
    refine ret_cellT rfl rfl rfl hS Tryd.underlying24 rfl (by kernel_rfl) rfl ?_
    exact ⟨none, 0, 0, by rw [keepK_no (by rw [HE.out]; exact HZ.out), HE.out]; rfl, by rw [keepL_no (by rw [HE.out]; exact HZ.out)]; exact OwnL.nil _ _, hbS⟩
set_option maxRecDepth 100000 in
set_option maxHeartbeats 3200000 in
theorem code_back (K : Int) (A : Option Addr) (n c : Nat) (L : List Lt) (w : World) (hA : Lets w A n L) (hc : n ≤ c) :
    Calls Tryd.prog 41 #[.agg #[.int .i64 K, .slice A n c]] w (GivesCE w (keepK K L) (keepL K L (backL L)) (checkE K L)) := by
  have hbx : Boxed w ((w.alloc (.cells #[.int .i64 K, .slice A n c] 24)).alloc (.cells #[.int .i64 0, .slice none 0 0] 24)) K A n c := (Boxed.refl w K A n c).alloc _
  have hR0 : Blk ((w.alloc (.cells #[.int .i64 K, .slice A n c] 24)).alloc (.cells #[.int .i64 0, .slice none 0 0] 24)) (w.heap.size + 1) 24 #[.int .i64 0, .slice none 0 0] := heap_alloc2_new w _ _
  obtain ⟨E, hE⟩ : ∃ E, checkE K L = E := ⟨_, rfl⟩
  obtain ⟨K2, hK2⟩ : ∃ K2 : Int, keepK K L = K2 := ⟨_, rfl⟩
  obtain ⟨M, hM⟩ : ∃ M : List Lt, keepL K L (backL L) = M := ⟨_, rfl⟩
  have hch := fun wx (h : Lets wx A n L) => changed_back K A n c L wx h hc
  rw [hE, hK2, hM] at hch ⊢
  have HCH := Lib.hid hch
  clear hch hE hK2 hM
  go_enter Tryd.func41, Tryd.ntmps41
  go_wp2_with fail
  generalize (w.alloc (.cells #[.int .i64 K, .slice A n c] 24)).alloc (.cells #[.int .i64 0, .slice none 0 0] 24) = X at hbx hR0 ⊢
  refine (HCH.out _ (hA.below hbx.below)).mono ?_
  rintro e w1 ⟨A1, n1, c1, rfl, hL1, hb1⟩
  have hX := hR0.lt
  have hR1 := hR0.below hb1 hX
  have r0 : w1.cell? ⟨w.heap.size + 1, 0, none⟩ = some (.int .i64 0) := (hR1.cell 0).trans rfl
  have r1 : w1.cell? ⟨w.heap.size + 1, 1, none⟩ = some (.slice none 0 0) := (hR1.cell 1).trans rfl
  have z0 := hR1.frozen 0
  have z1 := hR1.frozen 1
  have hG := copy_ends (w := w) (X := X) (K := K2) hR1 hb1 hbx.below hX hL1
  clear hR0 hR1 hbx hb1
  go_wp2_with fail
  (try simp only [Exit.inBlock, Exit.then])
  refine ret_cellT rfl rfl rfl hG.1 Tryd.underlying24 rfl (by kernel_rfl) rfl ?_
  exact ⟨A1, n1, c1, rfl, hG.2.1, hG.2.2⟩
end

section
open Go.RowKit
theorem buildL1 (x : Lt) (w : World) : (Instr.buildSlice 22 1 #[(0, .agg #[.int .i64 x.kind, .int .i64 x.gate, .int .i64 x.rank, .int .i64 x.id, .int .i64 x.sign, .bool x.over])]).run Tryd.prog w = .ok (.slice (some ⟨w.heap.size, 0, none⟩) 1 1) (w.alloc (.cells #[.int .i64 x.kind, .int .i64 x.gate, .int .i64 x.rank, .int .i64 x.id, .int .i64 x.sign, .bool x.over] 46)) := by
  obtain ⟨i0, hi, hz0, hz1, hz2⟩ := info_parts ltInfo
  refine run_buildSlice w _ _ 1 _ _ i0 _ Tryd.underlying22 hi hz0 (by rw [hz1]; omega) (by rw [hz1]; omega) ?_
  rw [hz1]
  kernel_rfl
theorem lets_built (x : Lt) (hx : LtOk x) (w : World) : Lets (w.alloc (.cells #[.int .i64 x.kind, .int .i64 x.gate, .int .i64 x.rank, .int .i64 x.id, .int .i64 x.sign, .bool x.over] 46)) (some ⟨w.heap.size, 0, none⟩) 1 [x] := by
  have h : Blk (w.alloc (.cells #[.int .i64 x.kind, .int .i64 x.gate, .int .i64 x.rank, .int .i64 x.id, .int .i64 x.sign, .bool x.over] 46)) w.heap.size 46 ([x].flatMap ltC).toArray := Blk.new _ _ _
  exact (OwnL.block (base := 0) h (Nat.zero_le _) (fun y hy => by simp at hy; subst hy; exact hx) (by simp)).lets
/-- A code under way: its letters, its directions. -/
structure BackI (w X wr : World) (K : Int) (A1 : Option Addr) (t1 c1 : Nat) (A2 : Option Addr) (t2 c2 : Nat) (M : List Lt) (D : List Bool) : Prop where
  out : OwnL wr X.heap.size A1 t1 c1 M
  dn : OwnD wr X.heap.size A2 t2 c2 D
  bk : Blk wr (w.heap.size + 1 + 1) 24 #[.int .i64 K, .slice A1 t1 c1]
  sep : ∀ q, blk A1 = some q → blk A2 ≠ some q
  old : Below (w.heap.size + 1 + 1) X wr
  size : X.heap.size ≤ wr.heap.size
section
variable {w X wr wx : World} {K : Int} {A1 A2 A' : Option Addr} {t1 c1 t2 c2 t' c' : Nat} {M M' : List Lt} {D D' : List Bool}
theorem BackI.next (h : BackI w X wr K A1 t1 c1 A2 t2 c2 M D) (hb : Below wr.heap.size wr wx) : BackI w X wx K A1 t1 c1 A2 t2 c2 M D :=
  ⟨h.out.next hb, Row.below h.dn hb, h.bk.below hb h.bk.lt, h.sep, h.old.trans (hb.mono (by have := h.bk.lt; omega)), Nat.le_trans h.size hb.size⟩
theorem BackI.push (h : BackI w X wr K A1 t1 c1 A2 t2 c2 M D) (hX : w.heap.size + 1 + 1 < X.heap.size) (hg : wr.grownBy wx (blk A2)) (hD : OwnD wx X.heap.size A' t' c' D') (hl : ∀ k, blk A' = some k → blk A2 = some k ∨ wr.heap.size ≤ k) : BackI w X wx K A1 t1 c1 A' t' c' M D' := by
  refine ⟨⟨h.out.row.kept hg ?_, h.out.fits, h.out.le⟩, hD, h.bk.grown hg (fun e => ?_), fun q hq e => ?_, h.old.trans ((Below.refl _ _).grown hg (by have := h.bk.lt; omega) (fun k hk => ?_)), Nat.le_trans h.size hg.size⟩
  · cases hb : blk A1 with
    | none => exact .inl rfl
    | some q => exact .inr (fun e => h.sep q hb e.symm)
  · have := (Row.lt h.dn _ e.symm).1; omega
  · rcases hl q e with h1 | h1
    · exact h.sep q hq h1
    · have := (h.out.row.lt q hq).2; omega
  · have := (Row.lt h.dn k hk).1; omega
theorem BackI.grow (h : BackI w X wr K A1 t1 c1 A2 t2 c2 M D) (hX : w.heap.size + 1 + 1 < X.heap.size) (hg : wr.grownBy wx (blk A1)) (hO : OwnL wx X.heap.size A' t' c' M') (hl : ∀ k, blk A' = some k → blk A1 = some k ∨ wr.heap.size ≤ k) :
    BackI w X (wx.setCell ⟨w.heap.size + 1 + 1, 1, none⟩ (.slice A' t' c')) K A' t' c' A2 t2 c2 M' D := by
  have g1 := only_setCell (World.grownBy.refl wx (some (w.heap.size + 1 + 1))) (p := ⟨w.heap.size + 1 + 1, 1, none⟩) (.inl rfl) (.slice A' t' c')
  have hbk : Blk wx (w.heap.size + 1 + 1) 24 #[.int .i64 K, .slice A1 t1 c1] := h.bk.grown hg (fun e => by have := (h.out.row.lt _ e.symm).1; omega)
  have hdn : OwnD wx X.heap.size A2 t2 c2 D := Row.kept h.dn hg (by
    cases hb : blk A2 with
    | none => exact .inl rfl
    | some q => exact .inr (fun e => h.sep q e.symm hb))
  refine ⟨⟨hO.row.kept g1 ?_, hO.fits, hO.le⟩, Row.kept hdn g1 ?_, hbk.set_ 1 _, fun q hq e => ?_, (h.old.trans ((Below.refl _ _).grown hg (by have := h.bk.lt; omega) (fun k hk => ?_))).setCell (p := ⟨w.heap.size + 1 + 1, 1, none⟩) (Nat.le_refl _) _, ?_⟩
  · cases hb : blk A' with
    | none => exact .inl rfl
    | some q => exact .inr (by have := (hO.row.lt q hb).1; simp; omega)
  · cases hb : blk A2 with
    | none => exact .inl rfl
    | some q => exact .inr (by have := (Row.lt hdn q hb).1; simp; omega)
  · rcases hl q hq with h1 | h1
    · exact h.sep q h1 e
    · have := (Row.lt h.dn q e).2; omega
  · have := (h.out.row.lt k hk).1; omega
  · have := h.size; have := hg.size; simp [World.setCell]; omega
end
theorem copy_ends2 {w X wr : World} {K : Int} {A : Option Addr} {n c : Nat} {M : List Lt} (hR : Blk wr (w.heap.size + 1) 24 #[.int .i64 0, .slice none 0 0]) (hb : Below (w.heap.size + 1 + 1) X wr) (hbx : Below w.heap.size w X) (hX : w.heap.size + 1 < X.heap.size) (h : OwnL wr X.heap.size A n c M) :
    Blk ((wr.setCell ⟨w.heap.size + 1, 0, none⟩ (.int .i64 K)).setCell ⟨w.heap.size + 1, 1, none⟩ (.slice A n c)) (w.heap.size + 1) 24 #[.int .i64 K, .slice A n c] ∧
    OwnL ((wr.setCell ⟨w.heap.size + 1, 0, none⟩ (.int .i64 K)).setCell ⟨w.heap.size + 1, 1, none⟩ (.slice A n c)) w.heap.size A n c M ∧
    Below w.heap.size w ((wr.setCell ⟨w.heap.size + 1, 0, none⟩ (.int .i64 K)).setCell ⟨w.heap.size + 1, 1, none⟩ (.slice A n c)) := by
  refine ⟨(hR.set_ 0 _).set_ 1 _, ?_, ((below_chain hbx hb (by omega)).setCell (p := ⟨w.heap.size + 1, 0, none⟩) (by simp) (.int .i64 K)).setCell (p := ⟨w.heap.size + 1, 1, none⟩) (by simp) (.slice A n c)⟩
  have gS := only_setCell (only_setCell (World.grownBy.refl wr (some (w.heap.size + 1))) (p := ⟨w.heap.size + 1, 0, none⟩) (.inl rfl) (.int .i64 K)) (p := ⟨w.heap.size + 1, 1, none⟩) (.inl rfl) (.slice A n c)
  refine ⟨(h.row.kept gS ?_).mono (by omega), h.fits, h.le⟩
  cases hb : blk A with
  | none => exact .inl rfl
  | some q => exact .inr (by have := (h.row.lt q hb).1; simp; omega)
set_option maxRecDepth 100000 in
set_option maxHeartbeats 6400000 in
theorem cref_Back (K : Int) (A : Option Addr) (n c : Nat) (L : List Lt) (w : World) (hA : Lets w A n L) (hs : Tame K L) :
    Calls Tryd.prog 45 #[.agg #[.int .i64 K, .slice A n c]] w (GivesC w K (backL L)) := by
  have hle := hA.le
  have hLn := Lib.hid hA.len
  have hn4 : n ≤ 400 := by have := hs.len; have := hA.len; omega
  have hbb := buildB1
  have hb1c := build_code1 K
  have hRl : L.reverse.length = n := by simp [hLn.out]
  have HRL := Lib.hid hRl
  have HBK := Lib.hid (show backL L = settleL L.reverse (fun i => !dwn L (n - 1 - i)) by unfold backL; rw [hLn.out])
  have HTK := Lib.hid (show ∀ i t, i + t + 1 = n → L.reverse.take t ++ [la L i] = L.reverse.take (t + 1) from fun i t h => by
    rw [List.take_add_one, la_get (by rw [hRl]; omega), la_rev hLn.out (by omega), show n - 1 - t = i by omega]; rfl)
  generalize hM : L.reverse = M at HRL HBK HTK
  have HM := Lib.hid hM
  have hbx : Boxed w (((w.alloc (.cells #[.int .i64 K, .slice A n c] 24)).alloc (.cells #[.int .i64 0, .slice none 0 0] 24)).alloc (.cells #[.int .i64 K, .slice none 0 0] 24)) K A n c := ((Boxed.refl w K A n c).alloc _).alloc _
  have hR0 : Blk (((w.alloc (.cells #[.int .i64 K, .slice A n c] 24)).alloc (.cells #[.int .i64 0, .slice none 0 0] 24)).alloc (.cells #[.int .i64 K, .slice none 0 0] 24)) (w.heap.size + 1) 24 #[.int .i64 0, .slice none 0 0] := Blk.alloc (heap_alloc2_new w _ _) _
  have hO0 : Blk (((w.alloc (.cells #[.int .i64 K, .slice A n c] 24)).alloc (.cells #[.int .i64 0, .slice none 0 0] 24)).alloc (.cells #[.int .i64 K, .slice none 0 0] 24)) (w.heap.size + 1 + 1) 24 #[.int .i64 K, .slice none 0 0] := by
    unfold Blk
    rw [show w.heap.size + 1 + 1 = (w.alloc (.cells #[.int .i64 K, .slice A n c] 24)).heap.size + 1 by simp]
    exact heap_alloc2_new _ _ _
  clear hs hM hRl
  go_enter Tryd.func45, Tryd.ntmps45
  go_wp2_with fail
  generalize ((w.alloc (.cells #[.int .i64 K, .slice A n c] 24)).alloc (.cells #[.int .i64 0, .slice none 0 0] 24)).alloc (.cells #[.int .i64 K, .slice none 0 0] 24) = X at hbx hR0 hO0 ⊢
  have hX := hO0.lt
  have hI0 : BackI w X X K none 0 0 none 0 0 (M.take 0) ((List.range 0).map (fun i => !dwn L (n - 1 - i))) := ⟨OwnL.nil _ _, Row.none_ _ _ _, hO0, (fun q hq => by cases hq), Below.refl _ _, Nat.le_refl _⟩
  clear hO0
  go_loopw [4, 5] (fun v4 v5 wr => ∃ (t : Nat) (x : Int) (A1 A2 : Option Addr) (c1 c2 : Nat), t ≤ n ∧ v5 = .int .i64 x ∧ Hid (x = (n : Int) - 1 - (t : Int)) ∧ v4 = .slice A2 t c2 ∧ BackI w X wr K A1 t c1 A2 t c2 (M.take t) ((List.range t).map (fun i => !dwn L (n - 1 - i)))) (fun _ v5 _ => (intOf v5 + 1).toNat)
  case atStart => exact ⟨0, (n : Int) - 1, none, none, 0, 0, Nat.zero_le _, rfl, Lib.hid (by simp), rfl, hI0⟩
  case round =>
    obtain ⟨t, x, A1, A2, c1, c2, ht, rfl, HX, rfl, hI⟩ := hrel
    clear hI0
    have hbxr : Boxed w wr K A n c := hbx.moreB hI.old (by omega)
    have hR := hR0.below hI.old (by omega)
    by_cases hlt : t < n
    · obtain ⟨i, hi⟩ : ∃ i : Nat, i + t + 1 = n := ⟨n - 1 - t, by omega⟩
      have hx : x = (i : Int) := by have := HX.out; omega
      subst hx
      have hin : i < n := by omega
      obtain ⟨ga, oa, rfl, hga, hxa, hok⟩ := (hA.below hbxr.below).at_ hin
      obtain ⟨z0, z1, z2, z3, z4, z5⟩ := hxa
      have i0 : (0 : Int) ≤ (i : Int) := by omega
      have i1 : (i : Int) < (n : Int) := by omega
      have hbl := buildL1 (la L i)
      have o1 : wr.cell? ⟨w.heap.size + 1 + 1, 1, none⟩ = some (.slice A1 t c1) := (hI.bk.cell 1).trans rfl
      have e1 := hbxr.c1
      have hlo := hI.bk.lt
      have f1 := hI.bk.frozen 1
      have hI1 := (hI.next (Below.refl _ _).drew).next ((Below.refl _ _).alloc (Nat.le_refl _) (.cells #[.int .i64 (la L i).kind, .int .i64 (la L i).gate, .int .i64 (la L i).rank, .int .i64 (la L i).id, .int .i64 (la L i).sign, .bool (la L i).over] 46))
      have HSL := Lib.hid (show (List.range t).map (fun i => !dwn L (n - 1 - i)) ++ [!dwn L i] = (List.range (t + 1)).map (fun i => !dwn L (n - 1 - i)) from by simp [List.range_succ, show n - 1 - t = i by omega])
      clear HX
      go_upto_region 6 with fail
      go_region_law (first
        | ((refine stepL (base := X.heap.size) (A := A1) (n := t) (c := c1) (L := M.take t) (B := some ⟨wr.heap.size, 0, none⟩) (m := 1) (d := 1) (M := [la L i]) rfl (.tmp 18) (.tmp 24) (by rfl) (by rfl) (by rfl) hI1.out (lets_built (la L i) hok wr.drew) (t + 1) rfl (by omega) hI1.size ?_)
           intro A3 c3 w3 hown3 hg3 hl3
           have kI := hI1.grow hX hg3 hown3 hl3
           have r1 : w3.cell? ⟨w.heap.size + 1 + 1, 1, none⟩ = some (.slice A1 t c1) := ((hI1.bk.grown hg3 (fun e => by have := (hI1.out.row.lt _ e.symm).1; omega)).cell 1).trans rfl
           have r2 : w3.frozen? ⟨w.heap.size + 1 + 1, 1, none⟩ = false := (hI1.bk.grown hg3 (fun e => by have := (hI1.out.row.lt _ e.symm).1; omega)).frozen 1))
      all_goals
        rw [HTK.out i t hi] at kI
        have hbI := below_chain hbx.below kI.old (by omega)
        have e2 := (hbx.moreB kI.old (by omega)).c0
        have e3 := (hbx.moreB kI.old (by omega)).c1
        have hAI := hA.below hbI
        clear r1 r2 o1 e1 f1 z0 z1 z2 z3 z4 z5 hI hI1 hg3 hl3 hown3 hbl
        go_upto_region 7 with fail
        generalize w3.setCell ⟨w.heap.size + 1 + 1, 1, none⟩ (.slice A3 (t + 1) c3) = V at kI e2 e3 hAI hbI ⊢
        go_wp2_with fail
        refine (ref_Down K i (some ⟨ga, oa, none⟩) n c L _ hAI (by omega)).mono ?_
        rintro e wD ⟨rfl, hbD⟩
        have kD := kI.next hbD
        clear kI e2 e3
        go_wp2_with (at_builtin; refine pushD rfl _ _ rfl kD.dn (!dwn L i) rfl wD.heap.size rfl rfl (t + 1) rfl (by omega) kD.size ?_; intro A4 c4 w4 hD4 hg4 hl4)
        have kE := kD.push hX hg4 hD4 hl4
        rw [HSL.out] at kE
        clear kD hD4 hg4 hl4
        go_wp2_with fail
        go_roundw
        case rel => exact ⟨t + 1, (i : Int) - 1, A3, A4, c3, c4, by omega, by go_num, Lib.hid (by omega), rfl, kE⟩
        case measure => simp [intOf]
    · have htn : t = n := by omega
      have hx : x = -1 := by have := HX.out; omega
      subst htn
      subst hx
      have hout := hI.out
      have hdn := hI.dn
      rw [List.take_of_length_le (by rw [HRL.out]; exact Nat.le_refl _)] at hout
      have hsc := cref_Settle K A1 t c1 M A2 c2 (fun i => !dwn L (t - 1 - i)) wr hout.lets hout.row.cap hdn.bools
      have HSC := Lib.hid hsc
      have o0 : wr.cell? ⟨w.heap.size + 1 + 1, 0, none⟩ = some (.int .i64 K) := (hI.bk.cell 0).trans rfl
      have o1 : wr.cell? ⟨w.heap.size + 1 + 1, 1, none⟩ = some (.slice A1 t c1) := (hI.bk.cell 1).trans rfl
      have hsz := hI.size
      have hold := hI.old
      clear hI hout hdn hsc HX
      go_wp2_with fail
      refine HSC.out.mono ?_
      rintro e w5 ⟨A5, n5, c5, rfl, hL5, hb5⟩
      have hR5 := hR.below hb5 hR.lt
      have r0 : w5.cell? ⟨w.heap.size + 1, 0, none⟩ = some (.int .i64 0) := (hR5.cell 0).trans rfl
      have r1 : w5.cell? ⟨w.heap.size + 1, 1, none⟩ = some (.slice none 0 0) := (hR5.cell 1).trans rfl
      have z0 := hR5.frozen 0
      have z1 := hR5.frozen 1
      have hL6 := hL5.mono hsz
      have hb6 : Below (w.heap.size + 1 + 1) X w5 := below_chain hold hb5 (by omega)
      have hG := copy_ends2 (w := w) (X := X) (K := K) hR5 hb6 hbx.below (by omega) hL6
      clear hR hR5 o0 o1
      go_wp2_with fail
      (try simp only [Exit.inBlock, Exit.then])
      refine ret_cellB rfl rfl hG.1 Tryd.underlying24 rfl (by kernel_rfl) rfl ?_
      exact ⟨A5, n5, c5, rfl, by rw [HBK.out]; exact hG.2.1, hG.2.2⟩
end
end Go.Proofs.YtkjcmppaapbabaaDoor
