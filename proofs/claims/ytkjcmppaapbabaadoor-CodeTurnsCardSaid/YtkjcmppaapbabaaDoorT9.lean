/-
  Contract: the document's Settle. Conditions: the letters read; the directions read.
-/
import Derived.Test.YtkjcmppaapbabaaDoorT5
namespace Go.Proofs.YtkjcmppaapbabaaDoor
open Go.RowKit
/-- A slice of bools that reads. -/
def BoolsAt (w : World) (B : Option Addr) (n : Nat) (d : Nat → Bool) : Prop := 0 < n → ∃ g off, B = some ⟨g, off, none⟩ ∧ g < w.heap.size ∧ ∀ i, i < n → w.cell? ⟨g, off + i, none⟩ = some (.bool (d i))
theorem BoolsAt.below {w w' : World} {B : Option Addr} {n : Nat} {d : Nat → Bool} (h : BoolsAt w B n d) (hb : Below w.heap.size w w') : BoolsAt w' B n d := fun hn => by
  obtain ⟨g, off, e, hg, hc⟩ := h hn
  exact ⟨g, off, e, Nat.lt_of_lt_of_le hg hb.size, fun i hi => (hb.cell (p := ⟨g, off + i, none⟩) hg).trans (hc i hi)⟩
theorem Lets.from' {w : World} {g o n i c : Nat} {L : List Lt} (h : Lets w (some ⟨g, o, none⟩) n L) (hi : i ≤ n) (hc : n ≤ c) : Lets w (if c = i then some ⟨g, o, none⟩ else some ⟨g, o + i * 6, none⟩) (n - i) (L.drop i) := by
  have := h.from hi hc
  simpa [Addr.add_lit] using this
set_option maxRecDepth 100000 in
set_option maxHeartbeats 6400000 in
theorem cref_Settle (K : Int) (A : Option Addr) (n c : Nat) (L : List Lt) (B : Option Addr) (m : Nat) (d : Nat → Bool) (w : World) (hA : Lets w A n L) (hc : n ≤ c) (hB : BoolsAt w B n d) :
    Calls Tryd.prog 96 #[.agg #[.int .i64 K, .slice A n c], .slice B n m] w (GivesC w K (settleL L d)) := by
  have hle := hA.le
  have hLn := Lib.hid hA.len
  have hbc2 := build_code2
  have hbx : Boxed w ((w.alloc (.cells #[.int .i64 K, .slice A n c] 24)).alloc (.cells #[.int .i64 0, .slice none 0 0] 24)) K A n c := (Boxed.refl w K A n c).alloc _
  have hR0 : Blk ((w.alloc (.cells #[.int .i64 K, .slice A n c] 24)).alloc (.cells #[.int .i64 0, .slice none 0 0] 24)) (w.heap.size + 1) 24 #[.int .i64 0, .slice none 0 0] := heap_alloc2_new w _ _
  go_enter Tryd.func96, Tryd.ntmps96
  go_wp2_with fail
  generalize (w.alloc (.cells #[.int .i64 K, .slice A n c] 24)).alloc (.cells #[.int .i64 0, .slice none 0 0] 24) = X at hbx hR0 ⊢
  have x0 := hbx.c0
  have x1 := hbx.c1
  have hX := hR0.lt
  have hAX := hA.below hbx.below
  have hBX := hB.below hbx.below
  have hst : Hid (∀ i, i < 0 → (isP (la L i) && d i) = false) := Lib.hid (fun i hi => by omega)
  have HBX := Lib.hid hBX
  clear hBX hB
  go_loop [5] (fun v5 => ∃ i : Nat, i ≤ n ∧ v5 = .int .i64 i ∧ Hid (∀ j, j < i → (isP (la L j) && d j) = false)) (fun v5 => n - (intOf v5).toNat)
  case atStart => exact ⟨0, Nat.zero_le _, rfl, hst⟩
  case round =>
    obtain ⟨i, hi, rfl, HN⟩ := hrel
    clear hst
    by_cases hlt : i < n
    · obtain ⟨ga, oa, rfl, hga, hxa, hok⟩ := hAX.at_ hlt
      obtain ⟨z0, z1, z2, z3, z4, z5⟩ := hxa
      obtain ⟨gb, ob, rfl, hgb, hbc⟩ := HBX.out (by omega)
      have hbi := hbc i hlt
      have i0 : (0 : Int) ≤ (i : Int) := by omega
      have i1 : (i : Int) < (n : Int) := by omega
      clear hbc
      by_cases hk1 : (la L i).kind = 1
      · have q1 : ((la L i).kind == 1) = true := by simpa using hk1
        cases hdi : d i with
        | true =>
          rw [hdi] at hbi
          have HS := Lib.hid (settle_at (L := L) (d := d) HN.out (by rw [isP_t hk1, hdi]; rfl) (by rw [hLn.out]; exact hlt))
          have i2 : (i : Int) ≤ (n : Int) := by omega
          have i3 : (i : Int) ≤ (c : Int) := by omega
          have f0 := hR0.frozen 0
          have f1 := hR0.frozen 1
          clear hdi hk1 HN
          go_upto_region 5 with fail
          go_region_law (first
            | ((refine stepL (base := X.heap.size) (A := none) (n := 0) (c := 0) (L := []) (m := n - i) (d := c - i) (M := L.drop i) rfl (.const (.slice none 0 0)) (.tmp 31) (by rfl) (by rfl) (by rfl) (OwnL.nil _ _) (Lets.from' (c := c) (hAX.below (Below.refl _ _).drew) (by omega) hc) (n - i) (by omega) (by omega) (Nat.le_refl _) ?_)
               intro A1 c1 w1 hown1 hg1 hl1
               have kg1 : X.grownBy w1 (blk none) := ⟨hg1.os, hg1.tape, hg1.output, hg1.size, hg1.block⟩
               have kb1 : Below X.heap.size X w1 := (Below.refl _ _).grown kg1 (Nat.le_refl _) (fun k hk => by cases hk)
               have u0 : w1.cell? ⟨w.heap.size, 0, none⟩ = some (.int .i64 K) := (hbx.more kb1).c0
               have u1 : w1.cell? ⟨w.heap.size, 1, none⟩ = some (.slice (some ⟨ga, oa, none⟩) n c) := (hbx.more kb1).c1)
            | ((refine stepL (base := X.heap.size) (m := i) (d := c) (M := L.take i) rfl (.tmp 32) (.tmp 36) (by rfl) (by rfl) (by rfl) hown1 (Lets.to (hAX.below kb1) (by omega)) n (by omega) (by omega) kb1.size ?_)
               intro A2 c2 w2 hown2 hg2 hl2
               have kb2 : Below X.heap.size X w2 := kb1.trans ((Below.refl _ _).grown hg2 kb1.size (fun k hk => (hown1.row.lt k hk).1))
               have t0 : w2.cell? ⟨w.heap.size, 0, none⟩ = some (.int .i64 K) := (hbx.more kb2).c0
               have r0 : w2.cell? ⟨w.heap.size + 1, 0, none⟩ = some (.int .i64 0) := ((hR0.below kb2 hX).cell 0).trans rfl
               have r1 : w2.cell? ⟨w.heap.size + 1, 1, none⟩ = some (.slice none 0 0) := ((hR0.below kb2 hX).cell 1).trans rfl
               have g0 := (hR0.below kb2 hX).frozen 0
               have g1 := (hR0.below kb2 hX).frozen 1))
          all_goals
            have hG := copy_ends (w := w) (X := X) (K := K) (hR0.below kb2 hX) kb2 hbx.below (by omega) hown2
            go_wp2_with fail
            all_goals
              (try simp only [Exit.inBlock, Exit.then])
              refine ret_cellB rfl rfl hG.1 Tryd.underlying24 rfl (by kernel_rfl) rfl ?_
              exact ⟨A2, n, c2, rfl, by rw [HS.out]; simpa [rotT] using hG.2.1, hG.2.2⟩
        | false =>
          rw [hdi] at hbi
          have HN1 := Lib.hid (show ∀ j, j < i + 1 → (isP (la L j) && d j) = false from fun j hj => by
            rcases Nat.decEq j i with e | e
            · exact HN.out j (by omega)
            · subst e; rw [hdi]; simp)
          clear hdi hk1 HN
          go_wp2_with fail
          go_round
          case rel => exact ⟨i + 1, by omega, by go_num, HN1⟩
          case measure => simp [intOf]; omega
      · have q1 : ((la L i).kind == 1) = false := by simpa using hk1
        have HN1 := Lib.hid (show ∀ j, j < i + 1 → (isP (la L j) && d j) = false from fun j hj => by
          rcases Nat.decEq j i with e | e
          · exact HN.out j (by omega)
          · subst e; rw [isP_f hk1]; rfl)
        clear hk1 HN
        go_wp2_with fail
        go_round
        case rel => exact ⟨i + 1, by omega, by go_num, HN1⟩
        case measure => simp [intOf]; omega
    · have hin : i = n := by omega
      have HS := Lib.hid (settle_none (L := L) (d := d) (by rw [hLn.out, ← hin]; exact HN.out))
      have i1 : ¬ (i : Int) < (n : Int) := by omega
      clear hin HN
      go_wp2_with fail
      refine (cref_Copy K A n c L _ hAX).mono ?_
      rintro e w1 ⟨A1, n1, c1, rfl, hown, hb1⟩
      have hR1 := hR0.below hb1 hX
      have r0 : w1.cell? ⟨w.heap.size + 1, 0, none⟩ = some (.int .i64 0) := (hR1.cell 0).trans rfl
      have r1 : w1.cell? ⟨w.heap.size + 1, 1, none⟩ = some (.slice none 0 0) := (hR1.cell 1).trans rfl
      have g0 := hR1.frozen 0
      have g1 := hR1.frozen 1
      have hG := copy_ends (w := w) (X := X) (K := K) hR1 hb1 hbx.below (by omega) hown
      clear hR1 x0 x1
      go_wp2_with fail
      (try simp only [Exit.inBlock, Exit.then])
      refine ret_cellB rfl rfl hG.1 Tryd.underlying24 rfl (by kernel_rfl) rfl ?_
      exact ⟨A1, n1, c1, rfl, by rw [HS.out]; exact hG.2.1, hG.2.2⟩
end Go.Proofs.YtkjcmppaapbabaaDoor
