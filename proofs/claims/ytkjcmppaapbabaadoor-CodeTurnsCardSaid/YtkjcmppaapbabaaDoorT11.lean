/-
  Contract: the program's Turn. Conditions: the letters read.
-/
import Derived.Test.YtkjcmppaapbabaaDoorT6
namespace Go.Proofs.YtkjcmppaapbabaaDoor
open Go.RowKit
/-- From j on the letters are mapped. -/
def Downto (g : Lt → Lt) (L M : List Lt) (j : Nat) : Prop := M.length = L.length ∧ ∀ i, i < L.length → la M i = if j ≤ i then g (la L i) else la L i
theorem Downto.zero (g : Lt → Lt) (L : List Lt) {n : Nat} (h : L.length = n) : Downto g L L n := ⟨rfl, fun i hi => by rw [if_neg (by omega)]⟩
theorem Downto.set {g : Lt → Lt} {L M : List Lt} {i : Nat} (h : Downto g L M (i + 1)) (hi : i < L.length) {x : Lt} (hx : x = g (la L i)) : Downto g L (M.set i x) i := by
  refine ⟨by simp [h.1], fun j hj => ?_⟩
  rw [la_set (by rw [h.1]; exact hi)]
  by_cases e : i = j
  · subst e; rw [if_pos rfl, if_pos (Nat.le_refl _), hx]
  · rw [if_neg e, h.2 j hj]
    by_cases e2 : i + 1 ≤ j
    · rw [if_pos e2, if_pos (by omega)]
    · rw [if_neg e2, if_neg (by omega)]
theorem Downto.skip {g : Lt → Lt} {L M : List Lt} {i : Nat} (h : Downto g L M (i + 1)) (hx : g (la L i) = la L i) : Downto g L M i := by
  refine ⟨h.1, fun j hj => ?_⟩
  rw [h.2 j hj]
  by_cases e2 : i + 1 ≤ j
  · rw [if_pos e2, if_pos (by omega)]
  · rw [if_neg e2]
    by_cases e : j = i
    · subst e; rw [if_pos (Nat.le_refl _), hx]
    · rw [if_neg (by omega)]
theorem Downto.all {g : Lt → Lt} {L M : List Lt} (h : Downto g L M 0) : M = L.map g := by
  apply List.ext_getElem?
  intro j
  by_cases hj : j < L.length
  · rw [la_get (by rw [h.1]; exact hj), h.2 j hj, if_pos (Nat.zero_le _), List.getElem?_map, la_get hj]; rfl
  · rw [List.getElem?_eq_none (by rw [h.1]; omega), List.getElem?_eq_none (by simp; omega)]
/-- The first pass from j on that meets d, or 0. -/
def FromJ (L : List Lt) (d : Nat → Bool) (j F : Nat) : Prop :=
  (F = 0 ∧ ∀ i, j ≤ i → i < L.length → (isP (la L i) && d i) = false) ∨ (j ≤ F ∧ F < L.length ∧ (isP (la L F) && d F) = true ∧ ∀ i, j ≤ i → i < F → (isP (la L i) && d i) = false)
theorem FromJ.lt {L : List Lt} {d : Nat → Bool} {j F : Nat} (h : FromJ L d j F) : F ≤ L.length := by
  rcases h with ⟨h, _⟩ | ⟨_, h, _⟩ <;> omega
theorem FromJ.stay {L : List Lt} {d : Nat → Bool} {i F : Nat} (h : FromJ L d (i + 1) F) (hi : (isP (la L i) && d i) = false) : FromJ L d i F := by
  rcases h with ⟨h1, h2⟩ | ⟨h1, h2, h3, h4⟩
  · refine .inl ⟨h1, fun k hk hk2 => ?_⟩
    rcases Nat.decEq k i with e | e
    · exact h2 k (by omega) hk2
    · subst e; exact hi
  · refine .inr ⟨by omega, h2, h3, fun k hk hk2 => ?_⟩
    rcases Nat.decEq k i with e | e
    · exact h4 k (by omega) hk2
    · subst e; exact hi
theorem FromJ.new {L : List Lt} {d : Nat → Bool} {i : Nat} (hl : i < L.length) (hi : (isP (la L i) && d i) = true) : FromJ L d i i := .inr ⟨Nat.le_refl _, hl, hi, fun k hk hk2 => by omega⟩
theorem FromJ.settle {L M : List Lt} {d : Nat → Bool} {F : Nat} (h : FromJ L d 0 F) (hlen : M.length = L.length) (hp : ∀ i, i < L.length → isP (la M i) = isP (la L i)) : rotT M F = settleL M d := by
  rcases h with ⟨rfl, h2⟩ | ⟨_, h2, h3, h4⟩
  · rw [settle_none (fun i hi => by rw [hp i (by omega)]; exact h2 i (Nat.zero_le _) (by omega))]
    simp [rotT]
  · rw [settle_at (k := F) (fun i hi => by rw [hp i (by omega)]; exact h4 i (Nat.zero_le _) hi) (by rw [hp F h2]; exact h3) (by omega)]
theorem to_isP (x : Lt) : isP (toLt x) = isP x := by unfold toLt; split <;> rfl
set_option maxRecDepth 100000 in
set_option maxHeartbeats 6400000 in
theorem turn_1 (p k : Nat) (A : Option Addr) (n c : Nat) (L : List Lt) (w : World) (hd : DiaN w p k A n c L) (hA : Lets w A n L) (hs : Tame (k : Int) L) :
    Calls Tryd.prog 94 #[.pointer (some ⟨p, 0, none⟩)] w (GivesL w (turnL L)) := by
  have hle := hA.le
  have hLn := Lib.hid hA.len
  have HS := Lib.hid hs
  obtain ⟨d1, d2, d3, d4⟩ := hd
  have HD4 := Lib.hid d4
  have hn4 : n ≤ 400 := by have := hs.len; have := hA.len; omega
  clear d4 hs
  go_enter Tryd.func94, Tryd.ntmps94
  go_wp2_with fail
  refine (clone_letters A n c L _ hA).mono ?_
  rintro e w1 ⟨A1, c1, rfl, hown, hb1⟩
  have hst : Hid (Downto toLt L L n) := Lib.hid (Downto.zero _ _ hLn.out)
  have hf0 : Hid (FromJ L (fun i => !dwn L i) n 0) := Lib.hid (.inl ⟨rfl, fun i h1 h2 => by have := hLn.out; omega⟩)
  have hcap1 : n ≤ c1 := hown.row.cap
  clear d1
  go_wp2_with fail
  go_loopw [4, 5] (fun v4 v5 wr => ∃ (j F : Nat) (x : Int) (Lw : List Lt), j ≤ n ∧ v5 = .int .i64 x ∧ Hid (x = (j : Int) - 1) ∧ v4 = .int .i64 F ∧ OwnL wr w.heap.size A1 n c1 Lw ∧ Below w.heap.size w wr ∧ Hid (Downto toLt L Lw j) ∧ Hid (FromJ L (fun i => !dwn L i) j F)) (fun _ v5 _ => (intOf v5 + 1).toNat)
  case atStart => exact ⟨n, 0, (n : Int) - 1, L, Nat.le_refl _, by go_num, Lib.hid rfl, rfl, hown, hb1, hst, hf0⟩
  case round =>
    obtain ⟨j, F, x, Lw, hj, rfl, HX, rfl, hLw, hbr, HU, HF⟩ := hrel
    clear hown hb1 hst hf0
    rcases Nat.eq_zero_or_pos j with h0 | h0
    · have hx : x = -1 := by have := HX.out; omega
      subst h0
      subst hx
      have hLf := HU.out.all
      rw [hLf] at hLw
      have hFl : F ≤ n := by have := HF.out.lt; have := hLn.out; omega
      have hset := Lib.hid (HF.out.settle (M := L.map toLt) (by simp) (fun i hi => by rw [la_map hi, to_isP]))
      have hrot := code_rotated F A1 n c1 (L.map toLt) wr hLw.lets hFl hcap1
      have HROT := Lib.hid hrot
      have hszr := hbr.size
      clear hLf HU HF hrot HX
      go_wp2_with fail
      refine HROT.out.mono ?_
      rintro e w5 ⟨A5, c5, rfl, hL5, hb5⟩
      rw [hset.out] at hL5
      have hL6 := hL5.mono hszr
      have hb6 := below_chain hbr hb5 hszr
      go_wp2_with fail
      go_ret
      exact ⟨A5, n, c5, rfl, hL6, hb6⟩
    · obtain ⟨i, rfl⟩ : ∃ i, j = i + 1 := ⟨j - 1, by omega⟩
      have hx : x = (i : Int) := by have := HX.out; omega
      subst hx
      have hlt : i < n := by omega
      obtain ⟨gg, o, rfl, hgg, hx, hok⟩ := hLw.lets.at_ hlt
      have hlw : la Lw i = la L i := by rw [HU.out.2 i (by rw [hLn.out]; exact hlt), if_neg (by omega)]
      have hgi : Lw[i]? = some (la L i) := by rw [la_get (by rw [hLw.len]; exact hlt), hlw]
      rw [hlw] at hx hok
      obtain ⟨y0, y1, y2, y3, y4, y5⟩ := hx
      have i0 : (0 : Int) ≤ (i : Int) := by omega
      have i1 : (i : Int) < (n : Int) := by omega
      have hcap := hLw.row.cap
      have hgb := (hLw.row.at_ _ rfl).2.1
      simp only [] at hgb
      have hszr := hbr.size
      have f5 : wr.frozen? ⟨gg, o + i * 6 + 5, none⟩ = false := hLw.row.free (j := i * 6 + 5) (by omega)
      have HOK := Lib.hid hok
      have HGI := Lib.hid hgi
      clear hok hgi hlw HX
      by_cases hk1 : (la L i).kind = 2
      · have q1 : ((la L i).kind == 2) = true := by simpa using hk1
        have hc2 := isC_t hk1
        have HF1 := Lib.hid (HF.out.stay (by rw [isP_f (show ¬(la L i).kind = 1 by omega)]; rfl))
        have HU1 := Lib.hid (HU.out.set (by rw [hLn.out]; exact hlt) (to_c hc2).symm)
        have hok1 : LtOk { la L i with over := !(la L i).over } := ⟨HOK.out.kind, HOK.out.gate, HOK.out.rank, HOK.out.id, HOK.out.sign⟩
        have hL1 := hLw.put (i := 5) (u := .bool (!(la L i).over)) (x' := { la L i with over := !(la L i).over }) HGI.out (by omega) rfl hok1 rfl
        have hb5 := hbr.setCell (p := ⟨gg, o + (i * 6 + 5), none⟩) hgb (.bool (!(la L i).over))
        clear HU HF hk1 hc2 hok1 hLw hbr
        go_wp2_with fail
        go_roundw
        case rel => exact ⟨i, F, (i : Int) - 1, _, by omega, by go_num, Lib.hid rfl, rfl, hL1, hb5, HU1, HF1⟩
        case measure => simp [intOf]
      · have q1 : ((la L i).kind == 2) = false := by simpa using hk1
        have hp1 : isP (la L i) = true := by
          rcases HS.out.kinds i (by rw [hLn.out]; exact hlt) with h | h
          · exact h
          · unfold isC at h; simp at h; exact absurd h hk1
        have HU1 := Lib.hid (HU.out.skip (to_n (x := la L i) (isC_f hk1)))
        obtain ⟨base, b, g2, g3, g4, g6, s, P, C, ids, hF⟩ := HD4.out (by omega)
        have hFr := hF.next hbr
        have hcs := hFr.ranks.down.cell hlt
        rw [hFr.ranks.downs i hp1] at hcs
        have d2c := hFr.ranks.dia.c2
        cases hdi : dwn L i with
        | true =>
          rw [hdi] at hcs
          have HF1 := Lib.hid (HF.out.stay (by simp [hdi]))
          clear HU HF hk1 hdi hF hFr hp1
          go_wp2_with fail
          go_roundw
          case rel => exact ⟨i, F, (i : Int) - 1, Lw, by omega, by go_num, Lib.hid rfl, rfl, hLw, hbr, HU1, HF1⟩
          case measure => simp [intOf]
        | false =>
          rw [hdi] at hcs
          have HF1 := Lib.hid (FromJ.new (L := L) (d := fun i => !dwn L i) (i := i) (by rw [hLn.out]; exact hlt) (by simp [hdi, hp1]))
          clear HU HF hk1 hdi hF hFr hp1
          go_wp2_with fail
          go_roundw
          case rel => exact ⟨i, i, (i : Int) - 1, Lw, by omega, by go_num, Lib.hid rfl, rfl, hLw, hbr, HU1, HF1⟩
          case measure => simp [intOf]
set_option maxRecDepth 100000 in
set_option maxHeartbeats 6400000 in
theorem changed_turn (K : Int) (A : Option Addr) (n c : Nat) (L : List Lt) (w : World) (hA : Lets w A n L) (hc : n ≤ c) :
    Calls Tryd.prog 90 #[.agg #[.int .i64 K, .slice A n c], .func (.func 94) #[] #[]] w (GivesCE w (keepK K L) (keepL K L (turnL L)) (checkE K L)) := by
  have hbc0 := build_code0
  have hbc2 := build_code2
  have hbx : Boxed w ((w.alloc (.cells #[.int .i64 K, .slice A n c] 24)).alloc (.cells #[.int .i64 0, .slice none 0 0] 24)) K A n c := (Boxed.refl w K A n c).alloc _
  have hR0 : Blk ((w.alloc (.cells #[.int .i64 K, .slice A n c] 24)).alloc (.cells #[.int .i64 0, .slice none 0 0] 24)) (w.heap.size + 1) 24 #[.int .i64 0, .slice none 0 0] := heap_alloc2_new w _ _
  obtain ⟨E, hE⟩ : ∃ E, checkE K L = E := ⟨_, rfl⟩
  have HE := Lib.hid hE
  clear hE
  go_enter Tryd.func90, Tryd.ntmps90
  go_wp2_with fail
  generalize (w.alloc (.cells #[.int .i64 K, .slice A n c] 24)).alloc (.cells #[.int .i64 0, .slice none 0 0] 24) = X at hbx hR0 ⊢
  refine (code_read K A n c L _ (hA.below hbx.below)).mono ?_
  rintro e w1 ⟨v, rfl, hb1, hok⟩
  have hX := hR0.lt
  have hsX := hb1.size
  have hR1 := hR0.below hb1 hX
  have hb2 := hbx.more hb1
  have x0 := hb2.c0
  have r0 : w1.cell? ⟨w.heap.size + 1, 0, none⟩ = some (.int .i64 0) := (hR1.cell 0).trans rfl
  have r1 : w1.cell? ⟨w.heap.size + 1, 1, none⟩ = some (.slice none 0 0) := (hR1.cell 1).trans rfl
  have z0 := hR1.frozen 0
  have z1 := hR1.frozen 1
  rw [HE.out]
  by_cases hz : E = 0
  · subst hz
    obtain ⟨p, rfl, k, rfl, hk40, hn400, hp, hcase⟩ := hok HE.out
    have HSM := Lib.hid (tame_of_check HE.out)
    have hdn : DiaN w1 p k A n c L := by
      rcases hcase with ⟨h0, hd⟩ | ⟨_, base, b, g2, g3, g4, g6, s, P, C, ids, _, hF⟩
      · exact ⟨hd.c1, hd.lt, hc, fun h => by omega⟩
      · exact ⟨hF.ranks.dia.c1, hF.ranks.dia.lt, hc, fun _ => ⟨base, b, g2, g3, g4, g6, s, P, C, ids, hF⟩⟩
    have hcl : ∀ wx, Below w1.heap.size w1 wx → Calls Tryd.prog 94 #[.pointer (some ⟨p, 0, none⟩)] wx (GivesL wx (turnL L)) := fun wx h => turn_1 p k A n c L wx (hdn.next h) (hA.below (hb2.more h).below) HSM.out
    have k0 : ∀ wx, Below w1.heap.size w1 wx → wx.cell? ⟨w.heap.size, 0, none⟩ = some (.int .i64 (k : Int)) := fun wx h => (hb2.more h).c0
    have k1 : ∀ wx a1 a2, Below w1.heap.size w1 wx → ((wx.setCell ⟨w.heap.size + 1, 0, none⟩ a1).setCell ⟨w.heap.size + 1, 1, none⟩ a2).cell? ⟨w.heap.size, 0, none⟩ = some (.int .i64 (k : Int)) := fun wx a1 a2 h => by
      rw [World.cell?_setCell_other _ _ _ _ (by intro e; injection e with e; omega), World.cell?_setCell_other _ _ _ _ (by intro e; injection e with e; omega)]
      exact (hb2.more h).c0
    have HCL := Lib.hid hcl
    have KP := Lib.hid k0
    have KS := Lib.hid k1
    have HW := hb2.below
    have hlw : w.heap.size + 1 < w1.heap.size := hR1.lt
    clear hcl k0 k1 hok hcase hdn hb2 hbx hR0 hb1 r0 r1 z0 z1
    go_wp2_with fail
    first
      | go_region_held3 (fun wx => wx.cell? ⟨w.heap.size, 0, none⟩ = some (.int .i64 (k : Int))) (first | assumption | exact KP.out _ (Below.refl _ _).drew | exact KP.out _ (by assumption) | exact KS.out _ _ _ (by assumption))
          ((go_at_call 94; refine (HCL.out _ (Below.refl _ _).drew).mono ?_; rintro e wy ⟨A2, n2, c2, rfl, hL2, hb3⟩; have hbz : Below w1.heap.size w1 wy := below_chain (Below.refl w1.heap.size w1).drew hb3 (Nat.le_refl _); have u0 : wy.cell? ⟨w.heap.size + 1, 0, none⟩ = some (.int .i64 0) := ((hR1.below hbz hlw).cell 0).trans rfl; have u1 : wy.cell? ⟨w.heap.size + 1, 1, none⟩ = some (.slice none 0 0) := ((hR1.below hbz hlw).cell 1).trans rfl; have u2 := (hR1.below hbz hlw).frozen 0; have u3 := (hR1.below hbz hlw).frozen 1))
      | fail
    all_goals
      have hRy := hR1.below (by assumption : Below w1.heap.size w1 wy) hlw
      have hG := copy_ends (w := w) (X := w1) (K := (k : Int)) hRy (by assumption : Below w1.heap.size w1 wy) HW hlw hL2
      clear x0 u0 u1 u2 u3 hRy
      go_wp2_with fail
      (try simp only [Exit.inBlock, Exit.then])
      refine ret_cellT rfl rfl rfl hG.1 Tryd.underlying24 rfl (by kernel_rfl) rfl ?_
      exact ⟨A2, n2, c2, by rw [keepK_ok HE.out, HE.out]; rfl, by rw [keepL_ok HE.out]; exact hG.2.1, hG.2.2⟩
  · have q : (E != 0) = true := by simpa using hz
    have hS : Blk ((w1.setCell ⟨w.heap.size + 1, 0, none⟩ (.int .i64 0)).setCell ⟨w.heap.size + 1, 1, none⟩ (.slice none 0 0)) (w.heap.size + 1) 24 #[.int .i64 0, .slice none 0 0] := (hR1.set_ 0 _).set_ 1 _
    have hbS := (hb2.below.setCell (p := ⟨w.heap.size + 1, 0, none⟩) (by simp) (.int .i64 0)).setCell (p := ⟨w.heap.size + 1, 1, none⟩) (by simp) (.slice none 0 0)
    have HZ := Lib.hid hz
    clear hz hok hR0 hR1 hb1 hbx
    go_wp2_with fail
    (try simp only [Exit.inBlock, Exit.then])
    refine ret_cellT rfl rfl rfl hS Tryd.underlying24 rfl (by kernel_rfl) rfl ?_
    exact ⟨none, 0, 0, by rw [keepK_no (by rw [HE.out]; exact HZ.out), HE.out]; rfl, by rw [keepL_no (by rw [HE.out]; exact HZ.out)]; exact OwnL.nil _ _, hbS⟩
set_option maxRecDepth 100000 in
set_option maxHeartbeats 3200000 in
theorem code_turn (K : Int) (A : Option Addr) (n c : Nat) (L : List Lt) (w : World) (hA : Lets w A n L) (hc : n ≤ c) :
    Calls Tryd.prog 44 #[.agg #[.int .i64 K, .slice A n c]] w (GivesCE w (keepK K L) (keepL K L (turnL L)) (checkE K L)) := by
  have hbx : Boxed w ((w.alloc (.cells #[.int .i64 K, .slice A n c] 24)).alloc (.cells #[.int .i64 0, .slice none 0 0] 24)) K A n c := (Boxed.refl w K A n c).alloc _
  have hR0 : Blk ((w.alloc (.cells #[.int .i64 K, .slice A n c] 24)).alloc (.cells #[.int .i64 0, .slice none 0 0] 24)) (w.heap.size + 1) 24 #[.int .i64 0, .slice none 0 0] := heap_alloc2_new w _ _
  obtain ⟨E, hE⟩ : ∃ E, checkE K L = E := ⟨_, rfl⟩
  obtain ⟨K2, hK2⟩ : ∃ K2 : Int, keepK K L = K2 := ⟨_, rfl⟩
  obtain ⟨M, hM⟩ : ∃ M : List Lt, keepL K L (turnL L) = M := ⟨_, rfl⟩
  have hch := fun wx (h : Lets wx A n L) => changed_turn K A n c L wx h hc
  rw [hE, hK2, hM] at hch ⊢
  have HCH := Lib.hid hch
  clear hch hE hK2 hM
  go_enter Tryd.func44, Tryd.ntmps44
  go_wp2_with fail
  generalize (w.alloc (.cells #[.int .i64 K, .slice A n c] 24)).alloc (.cells #[.int .i64 0, .slice none 0 0] 24) = X at hbx hR0 ⊢
  refine (HCH.out _ (hA.below hbx.below)).mono ?_
  rintro e w1 ⟨A1, n1, c1, rfl, hL1, hb1⟩
  have hX := hR0.lt
  have hR1 := hR0.below hb1 hX
  have r0 : w1.cell? ⟨w.heap.size + 1, 0, none⟩ = some (.int .i64 0) := (hR1.cell 0).trans rfl
  have r1 : w1.cell? ⟨w.heap.size + 1, 1, none⟩ = some (.slice none 0 0) := (hR1.cell 1).trans rfl
  have z0 := hR1.frozen 0
  have z1 := hR1.frozen 1
  have hG := copy_ends (w := w) (X := X) (K := K2) hR1 hb1 hbx.below hX hL1
  clear hR0 hR1 hbx hb1
  go_wp2_with fail
  (try simp only [Exit.inBlock, Exit.then])
  refine ret_cellT rfl rfl rfl hG.1 Tryd.underlying24 rfl (by kernel_rfl) rfl ?_
  exact ⟨A1, n1, c1, rfl, hG.2.1, hG.2.2⟩
end Go.Proofs.YtkjcmppaapbabaaDoor
