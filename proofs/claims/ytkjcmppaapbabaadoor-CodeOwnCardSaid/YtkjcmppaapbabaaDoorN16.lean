/-
  The law CodeOwn returns true and leaves what was there. Conditions: the arguments read as a code and an int.
-/
import Derived.Test.YtkjcmppaapbabaaDoorJN
import Derived.Test.YtkjcmppaapbabaaDoorJL
import Derived.Test.YtkjcmppaapbabaaDoorJT
import Derived.Test.YtkjcmppaapbabaaDoorJR
import Derived.Test.YtkjcmppaapbabaaDoorJS
import Derived.Test.YtkjcmppaapbabaaDoorNY
namespace Go.Proofs.YtkjcmppaapbabaaDoor
open Go.RowKit
/-- A code, in memory from B on that may be written, and no error or some error. -/
def Wbl (w : World) (B : Nat) (A : Option Addr) (n : Nat) : Prop := n = 0 ∨ ∃ g o, A = some ⟨g, o, none⟩ ∧ B ≤ g ∧ g < w.heap.size ∧ ∀ j, j < n * 6 → (w.cell? ⟨g, o + j, none⟩).isSome = true ∧ w.frozen? ⟨g, o + j, none⟩ = false
theorem Wbl.of {w : World} {B base : Nat} {A : Option Addr} {n c : Nat} {L : List Lt} (h : OwnL w base A n c L) (hB : B ≤ base) : Wbl w B A n := by
  rcases Nat.eq_zero_or_pos n with h0 | h0
  · exact .inl h0
  · obtain ⟨g, o, e, hb, hl⟩ := h.row.form h0
    subst e
    obtain ⟨_, _, _, _, h5⟩ := h.row.at_ _ rfl
    exact .inr ⟨g, o, rfl, by omega, hl, fun j hj => h5 j (by have := h.row.cap; omega)⟩
theorem Wbl.lift {w : World} {B B' : Nat} {A : Option Addr} {n : Nat} (h : Wbl w B' A n) (hB : B ≤ B') : Wbl w B A n := by
  rcases h with h | ⟨g, o, e, h1, h2, h3⟩
  · exact .inl h
  · exact .inr ⟨g, o, e, by omega, h2, h3⟩
theorem Wbl.below {w w' : World} {B : Nat} {A : Option Addr} {n : Nat} (h : Wbl w B A n) (hb : Below w.heap.size w w') : Wbl w' B A n := by
  rcases h with h | ⟨g, o, e, h1, h2, h3⟩
  · exact .inl h
  · refine .inr ⟨g, o, e, h1, Nat.lt_of_lt_of_le h2 hb.size, fun j hj => ?_⟩
    rw [hb.cell (p := ⟨g, o + j, none⟩) h2, hb.frozen (p := ⟨g, o + j, none⟩) h2]
    exact h3 j hj
theorem isSome_set (w : World) (p q : Addr) (u : Value) (h : (w.cell? q).isSome = true) : ((w.setCell p u).cell? q).isSome = true := by
  obtain ⟨v, hv⟩ := Option.isSome_iff_exists.1 h
  obtain ⟨u', hu⟩ := cell?_setCell_some (w := w) (p := p) (x := u) (q := q) (v := v) hv
  rw [hu]; rfl
def WblG (w : World) (B G : Nat) (A : Option Addr) (n : Nat) : Prop := n = 0 ∨ ∃ g o, A = some ⟨g, o, none⟩ ∧ B ≤ g ∧ g < G ∧ ∀ j, j < n * 6 → (w.cell? ⟨g, o + j, none⟩).isSome = true ∧ w.frozen? ⟨g, o + j, none⟩ = false
theorem WblG.of {w : World} {B : Nat} {A : Option Addr} {n : Nat} (h : Wbl w B A n) (ob : Obj) : WblG (w.alloc ob) B w.heap.size A n := by
  have h' := h.below ((Below.refl w.heap.size w).alloc (Nat.le_refl _) ob)
  rcases h with h | ⟨g, o, e, h1, h2, h3⟩
  · exact .inl h
  · rcases h' with h' | ⟨g', o', e', _, _, h3'⟩
    · exact .inl h'
    · rw [e] at e'; injection e' with e'; injection e' with e1 e2
      subst e1 e2
      exact .inr ⟨g, o, e, h1, h2, h3'⟩
theorem WblG.set {w : World} {B G : Nat} {A : Option Addr} {n : Nat} (h : WblG w B G A n) (p : Addr) (u : Value) : WblG (w.setCell p u) B G A n := by
  rcases h with h | ⟨g, o, e, h1, h2, h3⟩
  · exact .inl h
  · refine .inr ⟨g, o, e, h1, h2, fun j hj => ⟨isSome_set _ _ _ _ (h3 j hj).1, ?_⟩⟩
    rw [World.frozen?_setCell]; exact (h3 j hj).2
/-- Where the stores go. -/
structure Sto (V wr : World) (B G : Nat) (cs : Array Value) (ps : List (Option Addr × Nat)) : Prop where
  old : Below B V wr
  all : Blk wr G 24 cs
  own : ∀ p ∈ ps, WblG wr B G p.1 p.2
theorem Sto.put {V wr : World} {B G g o q : Nat} {cs : Array Value} {ps : List (Option Addr × Nat)} (h : Sto V wr B G cs ps) (h1 : B ≤ g) (h2 : g < G) (u : Value) : Sto V (wr.setCell ⟨g, o + q, none⟩ u) B G cs ps :=
  ⟨h.old.setCell (p := ⟨g, o + q, none⟩) h1 u, h.all.far (by simp; omega) u, fun p hp => (h.own p hp).set _ _⟩
/-- Some code and some error. -/
def GivesW (w : World) (e : Ending) (w' : World) : Prop := ∃ (K' : Int) (A' : Option Addr) (n' c' : Nat) (E : Int), e = .returned (.tuple #[.agg #[.int .i64 K', .slice A' n' c'], .int .i64 E]) ∧ Wbl w' w.heap.size A' n' ∧ n' ≤ 2932031007402 ∧ Below w.heap.size w w'
theorem gives_w {w : World} {K E : Int} {L : List Lt} {e : Ending} {w' : World} (h : GivesCE w K L E e w') : GivesW w e w' := by
  obtain ⟨A', n', c', rfl, hO, hb⟩ := h
  exact ⟨K, A', n', c', E, rfl, Wbl.of hO (Nat.le_refl _), hO.le, hb⟩
theorem buildC6 (k2 k3 k4 k5 k6 k7 : Int) (A2 A3 A4 A5 A6 A7 : Option Addr) (n2 r2 n3 r3 n4 r4 n5 r5 n6 r6 n7 r7 : Nat) (w : World) : (Instr.buildSlice 67 6 #[(0, .agg #[.int .i64 k2, .slice A2 n2 r2]), (1, .agg #[.int .i64 k3, .slice A3 n3 r3]), (2, .agg #[.int .i64 k4, .slice A4 n4 r4]), (3, .agg #[.int .i64 k5, .slice A5 n5 r5]), (4, .agg #[.int .i64 k6, .slice A6 n6 r6]), (5, .agg #[.int .i64 k7, .slice A7 n7 r7])]).run Tryd.prog w = .ok (.slice (some ⟨w.heap.size, 0, none⟩) 6 6) (w.alloc (.cells #[.int .i64 k2, .slice A2 n2 r2, .int .i64 k3, .slice A3 n3 r3, .int .i64 k4, .slice A4 n4 r4, .int .i64 k5, .slice A5 n5 r5, .int .i64 k6, .slice A6 n6 r6, .int .i64 k7, .slice A7 n7 r7] 24)) := by
  obtain ⟨i0, hi, hz0, hz1, hz2⟩ := info_parts codeInfo
  refine run_buildSlice w _ _ 6 _ _ i0 _ Tryd.underlying67 hi hz0 (by rw [hz1]; omega) (by rw [hz1]; omega) ?_
  rw [hz1]
  kernel_rfl
set_option maxRecDepth 100000 in
set_option maxHeartbeats 51200000 in
theorem codeOwn_any (K : Int) (A : Option Addr) (n c : Nat) (L : List Lt) (F : Int) (w : World) (hA : Lets w A n L) (hc : n ≤ c) (hF : I64 F) :
    Calls Tryd.prog 12 #[.agg #[.int .i64 K, .slice A n c], .int .i64 F] w fun e w' => e = .returned (.bool true) ∧ Below w.heap.size w w' := by
  have hbx := Boxed.refl w K A n c
  have hLn := Lib.hid hA.len
  have hb6 := buildC6
  by_cases h60 : n ≤ 60
  · have HD := Lib.hid (show decide (n ≤ 60) = true by simpa using h60)
    obtain ⟨E, hE⟩ : ∃ E, checkE K L = E := ⟨_, rfl⟩
    have HE := Lib.hid hE
    clear hE
    by_cases hz : E = 0
    · subst hz
      have hz2 : ∀ wx, Lets wx A n L → Calls Tryd.prog 50 #[.agg #[.int .i64 K, .slice A n c]] wx (GivesW wx) := fun wx h => (code_rename K A n c L wx h hc).mono fun e w' hg => gives_w hg
      have hz3 : ∀ wx, Lets wx A n L → Calls Tryd.prog 42 #[.agg #[.int .i64 K, .slice A n c]] wx (GivesW wx) := fun wx h => (code_swap K A n c L wx h hc).mono fun e w' hg => gives_w hg
      have hz4 : ∀ wx, Lets wx A n L → Calls Tryd.prog 43 #[.agg #[.int .i64 K, .slice A n c]] wx (GivesW wx) := fun wx h => (code_mirror K A n c L wx h hc).mono fun e w' hg => gives_w hg
      have hz5 : ∀ wx, Lets wx A n L → Calls Tryd.prog 36 #[.agg #[.int .i64 K, .slice A n c], .int .i64 F] wx (GivesW wx) := fun wx h => (code_Forget K F hF A n c L wx h).mono fun e w' hg => by
        obtain ⟨A', n', c', rfl, hO, hb⟩ := hg
        exact gives_w (K := forK K L F) (L := forL K L F) ⟨A', n', c', rfl, hO, hb⟩
      have hz6 : ∀ wx, Lets wx A n L → Calls Tryd.prog 41 #[.agg #[.int .i64 K, .slice A n c]] wx (GivesW wx) := fun wx h => (code_back K A n c L wx h hc).mono fun e w' hg => gives_w hg
      have hz7 : ∀ wx, Lets wx A n L → Calls Tryd.prog 49 #[.agg #[.int .i64 K, .slice A n c]] wx (GivesW wx) := fun wx h => (code_Normal K A n c L wx h hc).mono fun e w' hg => gives_w hg
      have HZ2 := Lib.hid hz2
      have HZ3 := Lib.hid hz3
      have HZ4 := Lib.hid hz4
      have HZ5 := Lib.hid hz5
      have HZ6 := Lib.hid hz6
      have HZ7 := Lib.hid hz7
      clear hz2 hz3 hz4 hz5 hz6 hz7
      go_enter Tryd.func12, Tryd.ntmps12
      go_wp2_with fail
      generalize w.alloc (.cells #[.int .i64 K, .slice A n c] 24) = X at hbx ⊢
      have hbx0 := hbx
      clear hbx
      refine (law_small K A n c L _ (hA.below hbx0.below)).mono ?_
      rintro e w1 ⟨rfl, hb⟩
      rw [HD.out]
      have hbx1 := hbx0.more hb
      clear hbx0 hb
      have c0 := hbx1.c0
      have c1 := hbx1.c1
      go_wp2_with fail
      refine (ref_Check K A n c L _ (hA.below hbx1.below)).mono ?_
      rintro e w2 ⟨rfl, hb⟩
      rw [HE.out]
      clear c0 c1
      have hbx2 := hbx1.more hb
      clear hbx1 hb
      have c0 := hbx2.c0
      have c1 := hbx2.c1
      go_wp2_with fail
      clear c0 c1
      refine (cref_Copy K A n c L _ (hA.below hbx2.below)).mono ?_
      rintro e u1 ⟨A1, n1, r1, rfl, hL1, hb⟩
      have hbn := (hbx2.more hb).alloc (.cells #[.int .i64 K, .slice A1 n1 r1] 24)
      have hB1 := Blk.new u1 24 #[.int .i64 K, .slice A1 n1 r1]
      have hM1 := hL1.lets.alloc (.cells #[.int .i64 K, .slice A1 n1 r1] 24)
      go_upto_region 4 with fail
      generalize u1.alloc (.cells #[.int .i64 K, .slice A1 n1 r1] 24) = W1 at hbn hB1 hM1 ⊢
      have hbx3 := hbn
      clear hbn hbx2 hb hL1
      have HBX := Lib.hid hbx3
      have HSZ := Lib.hid hbx3.size
      have hBs : W1.heap.size ≤ W1.heap.size := Nat.le_refl _
      have hBW : Below W1.heap.size W1 W1 := Below.refl _ _
      have c0 := hbx3.c0
      have c1 := hbx3.c1
      go_wp2_with fail
      clear c0 c1
      refine (HZ2.out _ (hA.below hbx3.below)).mono ?_
      rintro e u2 ⟨k2, A2, n2, r2, E2, rfl, hw, hn2, hb⟩
      have hbn := (hbx3.more hb).alloc (.cells #[.int .i64 k2, .slice A2 n2 r2] 24)
      have hw2 := (Wbl.lift hw hBs).below ((Below.refl _ _).alloc (Nat.le_refl _) (.cells #[.int .i64 k2, .slice A2 n2 r2] 24))
      have hB2 := Blk.new u2 24 #[.int .i64 k2, .slice A2 n2 r2]
      replace hBW := below_chain hBW (hb.alloc hb.size (.cells #[.int .i64 k2, .slice A2 n2 r2] 24)) hBs
      replace hBs := Nat.le_trans hBs (hb.alloc hb.size (.cells #[.int .i64 k2, .slice A2 n2 r2] 24)).size
      go_upto_region 5 with fail
      generalize u2.alloc (.cells #[.int .i64 k2, .slice A2 n2 r2] 24) = W2 at hbn hw2 hB2 hBW hBs ⊢
      have hbx4 := hbn
      clear hbn hbx3 hb hw
      have c0 := hbx4.c0
      have c1 := hbx4.c1
      go_wp2_with fail
      clear c0 c1
      refine (HZ3.out _ (hA.below hbx4.below)).mono ?_
      rintro e u3 ⟨k3, A3, n3, r3, E3, rfl, hw, hn3, hb⟩
      have hbn := (hbx4.more hb).alloc (.cells #[.int .i64 k3, .slice A3 n3 r3] 24)
      have hw3 := (Wbl.lift hw hBs).below ((Below.refl _ _).alloc (Nat.le_refl _) (.cells #[.int .i64 k3, .slice A3 n3 r3] 24))
      replace hB2 := (hB2.below hb hB2.lt).alloc (.cells #[.int .i64 k3, .slice A3 n3 r3] 24)
      replace hw2 := (hw2.below hb).below ((Below.refl _ _).alloc (Nat.le_refl _) (.cells #[.int .i64 k3, .slice A3 n3 r3] 24))
      have hB3 := Blk.new u3 24 #[.int .i64 k3, .slice A3 n3 r3]
      replace hBW := below_chain hBW (hb.alloc hb.size (.cells #[.int .i64 k3, .slice A3 n3 r3] 24)) hBs
      replace hBs := Nat.le_trans hBs (hb.alloc hb.size (.cells #[.int .i64 k3, .slice A3 n3 r3] 24)).size
      go_upto_region 6 with fail
      generalize u3.alloc (.cells #[.int .i64 k3, .slice A3 n3 r3] 24) = W3 at hbn hw3 hB2 hw2 hB3 hBW hBs ⊢
      have hbx5 := hbn
      clear hbn hbx4 hb hw
      have c0 := hbx5.c0
      have c1 := hbx5.c1
      go_wp2_with fail
      clear c0 c1
      refine (HZ4.out _ (hA.below hbx5.below)).mono ?_
      rintro e u4 ⟨k4, A4, n4, r4, E4, rfl, hw, hn4, hb⟩
      have hbn := (hbx5.more hb).alloc (.cells #[.int .i64 k4, .slice A4 n4 r4] 24)
      have hw4 := (Wbl.lift hw hBs).below ((Below.refl _ _).alloc (Nat.le_refl _) (.cells #[.int .i64 k4, .slice A4 n4 r4] 24))
      replace hB2 := (hB2.below hb hB2.lt).alloc (.cells #[.int .i64 k4, .slice A4 n4 r4] 24)
      replace hw2 := (hw2.below hb).below ((Below.refl _ _).alloc (Nat.le_refl _) (.cells #[.int .i64 k4, .slice A4 n4 r4] 24))
      replace hB3 := (hB3.below hb hB3.lt).alloc (.cells #[.int .i64 k4, .slice A4 n4 r4] 24)
      replace hw3 := (hw3.below hb).below ((Below.refl _ _).alloc (Nat.le_refl _) (.cells #[.int .i64 k4, .slice A4 n4 r4] 24))
      have hB4 := Blk.new u4 24 #[.int .i64 k4, .slice A4 n4 r4]
      replace hBW := below_chain hBW (hb.alloc hb.size (.cells #[.int .i64 k4, .slice A4 n4 r4] 24)) hBs
      replace hBs := Nat.le_trans hBs (hb.alloc hb.size (.cells #[.int .i64 k4, .slice A4 n4 r4] 24)).size
      go_upto_region 7 with fail
      generalize u4.alloc (.cells #[.int .i64 k4, .slice A4 n4 r4] 24) = W4 at hbn hw4 hB2 hw2 hB3 hw3 hB4 hBW hBs ⊢
      have hbx6 := hbn
      clear hbn hbx5 hb hw
      have c0 := hbx6.c0
      have c1 := hbx6.c1
      go_wp2_with fail
      clear c0 c1
      refine (HZ5.out _ (hA.below hbx6.below)).mono ?_
      rintro e u5 ⟨k5, A5, n5, r5, E5, rfl, hw, hn5, hb⟩
      have hbn := (hbx6.more hb).alloc (.cells #[.int .i64 k5, .slice A5 n5 r5] 24)
      have hw5 := (Wbl.lift hw hBs).below ((Below.refl _ _).alloc (Nat.le_refl _) (.cells #[.int .i64 k5, .slice A5 n5 r5] 24))
      replace hB2 := (hB2.below hb hB2.lt).alloc (.cells #[.int .i64 k5, .slice A5 n5 r5] 24)
      replace hw2 := (hw2.below hb).below ((Below.refl _ _).alloc (Nat.le_refl _) (.cells #[.int .i64 k5, .slice A5 n5 r5] 24))
      replace hB3 := (hB3.below hb hB3.lt).alloc (.cells #[.int .i64 k5, .slice A5 n5 r5] 24)
      replace hw3 := (hw3.below hb).below ((Below.refl _ _).alloc (Nat.le_refl _) (.cells #[.int .i64 k5, .slice A5 n5 r5] 24))
      replace hB4 := (hB4.below hb hB4.lt).alloc (.cells #[.int .i64 k5, .slice A5 n5 r5] 24)
      replace hw4 := (hw4.below hb).below ((Below.refl _ _).alloc (Nat.le_refl _) (.cells #[.int .i64 k5, .slice A5 n5 r5] 24))
      have hB5 := Blk.new u5 24 #[.int .i64 k5, .slice A5 n5 r5]
      replace hBW := below_chain hBW (hb.alloc hb.size (.cells #[.int .i64 k5, .slice A5 n5 r5] 24)) hBs
      replace hBs := Nat.le_trans hBs (hb.alloc hb.size (.cells #[.int .i64 k5, .slice A5 n5 r5] 24)).size
      go_upto_region 8 with fail
      generalize u5.alloc (.cells #[.int .i64 k5, .slice A5 n5 r5] 24) = W5 at hbn hw5 hB2 hw2 hB3 hw3 hB4 hw4 hB5 hBW hBs ⊢
      have hbx7 := hbn
      clear hbn hbx6 hb hw
      have c0 := hbx7.c0
      have c1 := hbx7.c1
      go_wp2_with fail
      clear c0 c1
      refine (HZ6.out _ (hA.below hbx7.below)).mono ?_
      rintro e u6 ⟨k6, A6, n6, r6, E6, rfl, hw, hn6, hb⟩
      have hbn := (hbx7.more hb).alloc (.cells #[.int .i64 k6, .slice A6 n6 r6] 24)
      have hw6 := (Wbl.lift hw hBs).below ((Below.refl _ _).alloc (Nat.le_refl _) (.cells #[.int .i64 k6, .slice A6 n6 r6] 24))
      replace hB2 := (hB2.below hb hB2.lt).alloc (.cells #[.int .i64 k6, .slice A6 n6 r6] 24)
      replace hw2 := (hw2.below hb).below ((Below.refl _ _).alloc (Nat.le_refl _) (.cells #[.int .i64 k6, .slice A6 n6 r6] 24))
      replace hB3 := (hB3.below hb hB3.lt).alloc (.cells #[.int .i64 k6, .slice A6 n6 r6] 24)
      replace hw3 := (hw3.below hb).below ((Below.refl _ _).alloc (Nat.le_refl _) (.cells #[.int .i64 k6, .slice A6 n6 r6] 24))
      replace hB4 := (hB4.below hb hB4.lt).alloc (.cells #[.int .i64 k6, .slice A6 n6 r6] 24)
      replace hw4 := (hw4.below hb).below ((Below.refl _ _).alloc (Nat.le_refl _) (.cells #[.int .i64 k6, .slice A6 n6 r6] 24))
      replace hB5 := (hB5.below hb hB5.lt).alloc (.cells #[.int .i64 k6, .slice A6 n6 r6] 24)
      replace hw5 := (hw5.below hb).below ((Below.refl _ _).alloc (Nat.le_refl _) (.cells #[.int .i64 k6, .slice A6 n6 r6] 24))
      have hB6 := Blk.new u6 24 #[.int .i64 k6, .slice A6 n6 r6]
      replace hBW := below_chain hBW (hb.alloc hb.size (.cells #[.int .i64 k6, .slice A6 n6 r6] 24)) hBs
      replace hBs := Nat.le_trans hBs (hb.alloc hb.size (.cells #[.int .i64 k6, .slice A6 n6 r6] 24)).size
      go_upto_region 9 with fail
      generalize u6.alloc (.cells #[.int .i64 k6, .slice A6 n6 r6] 24) = W6 at hbn hw6 hB2 hw2 hB3 hw3 hB4 hw4 hB5 hw5 hB6 hBW hBs ⊢
      have hbx8 := hbn
      clear hbn hbx7 hb hw
      have c0 := hbx8.c0
      have c1 := hbx8.c1
      go_wp2_with fail
      clear c0 c1
      refine (HZ7.out _ (hA.below hbx8.below)).mono ?_
      rintro e u7 ⟨k7, A7, n7, r7, E7, rfl, hw, hn7, hb⟩
      have hbn := (hbx8.more hb).alloc (.cells #[.int .i64 k7, .slice A7 n7 r7] 24)
      have hw7 := (Wbl.lift hw hBs).below ((Below.refl _ _).alloc (Nat.le_refl _) (.cells #[.int .i64 k7, .slice A7 n7 r7] 24))
      replace hB2 := (hB2.below hb hB2.lt).alloc (.cells #[.int .i64 k7, .slice A7 n7 r7] 24)
      replace hw2 := (hw2.below hb).below ((Below.refl _ _).alloc (Nat.le_refl _) (.cells #[.int .i64 k7, .slice A7 n7 r7] 24))
      replace hB3 := (hB3.below hb hB3.lt).alloc (.cells #[.int .i64 k7, .slice A7 n7 r7] 24)
      replace hw3 := (hw3.below hb).below ((Below.refl _ _).alloc (Nat.le_refl _) (.cells #[.int .i64 k7, .slice A7 n7 r7] 24))
      replace hB4 := (hB4.below hb hB4.lt).alloc (.cells #[.int .i64 k7, .slice A7 n7 r7] 24)
      replace hw4 := (hw4.below hb).below ((Below.refl _ _).alloc (Nat.le_refl _) (.cells #[.int .i64 k7, .slice A7 n7 r7] 24))
      replace hB5 := (hB5.below hb hB5.lt).alloc (.cells #[.int .i64 k7, .slice A7 n7 r7] 24)
      replace hw5 := (hw5.below hb).below ((Below.refl _ _).alloc (Nat.le_refl _) (.cells #[.int .i64 k7, .slice A7 n7 r7] 24))
      replace hB6 := (hB6.below hb hB6.lt).alloc (.cells #[.int .i64 k7, .slice A7 n7 r7] 24)
      replace hw6 := (hw6.below hb).below ((Below.refl _ _).alloc (Nat.le_refl _) (.cells #[.int .i64 k7, .slice A7 n7 r7] 24))
      have hB7 := Blk.new u7 24 #[.int .i64 k7, .slice A7 n7 r7]
      replace hBW := below_chain hBW (hb.alloc hb.size (.cells #[.int .i64 k7, .slice A7 n7 r7] 24)) hBs
      replace hBs := Nat.le_trans hBs (hb.alloc hb.size (.cells #[.int .i64 k7, .slice A7 n7 r7] 24)).size
      go_upto_region 10 with fail
      generalize u7.alloc (.cells #[.int .i64 k7, .slice A7 n7 r7] 24) = W7 at hbn hw7 hB2 hw2 hB3 hw3 hB4 hw4 hB5 hw5 hB6 hw6 hB7 hBW hBs ⊢
      have hbx9 := hbn
      clear hbn hbx8 hb hw
      have g2 := ((hB2.cell 0).trans rfl : W7.cell? ⟨u2.heap.size, 0, none⟩ = some (.int .i64 k2))
      have h2 := ((hB2.cell 1).trans rfl : W7.cell? ⟨u2.heap.size, 1, none⟩ = some (.slice A2 n2 r2))
      have g3 := ((hB3.cell 0).trans rfl : W7.cell? ⟨u3.heap.size, 0, none⟩ = some (.int .i64 k3))
      have h3 := ((hB3.cell 1).trans rfl : W7.cell? ⟨u3.heap.size, 1, none⟩ = some (.slice A3 n3 r3))
      have g4 := ((hB4.cell 0).trans rfl : W7.cell? ⟨u4.heap.size, 0, none⟩ = some (.int .i64 k4))
      have h4 := ((hB4.cell 1).trans rfl : W7.cell? ⟨u4.heap.size, 1, none⟩ = some (.slice A4 n4 r4))
      have g5 := ((hB5.cell 0).trans rfl : W7.cell? ⟨u5.heap.size, 0, none⟩ = some (.int .i64 k5))
      have h5 := ((hB5.cell 1).trans rfl : W7.cell? ⟨u5.heap.size, 1, none⟩ = some (.slice A5 n5 r5))
      have g6 := ((hB6.cell 0).trans rfl : W7.cell? ⟨u6.heap.size, 0, none⟩ = some (.int .i64 k6))
      have h6 := ((hB6.cell 1).trans rfl : W7.cell? ⟨u6.heap.size, 1, none⟩ = some (.slice A6 n6 r6))
      have g7 := ((hB7.cell 0).trans rfl : W7.cell? ⟨u7.heap.size, 0, none⟩ = some (.int .i64 k7))
      have h7 := ((hB7.cell 1).trans rfl : W7.cell? ⟨u7.heap.size, 1, none⟩ = some (.slice A7 n7 r7))
      have hG := Blk.new W7 24 #[.int .i64 k2, .slice A2 n2 r2, .int .i64 k3, .slice A3 n3 r3, .int .i64 k4, .slice A4 n4 r4, .int .i64 k5, .slice A5 n5 r5, .int .i64 k6, .slice A6 n6 r6, .int .i64 k7, .slice A7 n7 r7]
      have hx2 := WblG.of hw2 (.cells #[.int .i64 k2, .slice A2 n2 r2, .int .i64 k3, .slice A3 n3 r3, .int .i64 k4, .slice A4 n4 r4, .int .i64 k5, .slice A5 n5 r5, .int .i64 k6, .slice A6 n6 r6, .int .i64 k7, .slice A7 n7 r7] 24)
      have hx3 := WblG.of hw3 (.cells #[.int .i64 k2, .slice A2 n2 r2, .int .i64 k3, .slice A3 n3 r3, .int .i64 k4, .slice A4 n4 r4, .int .i64 k5, .slice A5 n5 r5, .int .i64 k6, .slice A6 n6 r6, .int .i64 k7, .slice A7 n7 r7] 24)
      have hx4 := WblG.of hw4 (.cells #[.int .i64 k2, .slice A2 n2 r2, .int .i64 k3, .slice A3 n3 r3, .int .i64 k4, .slice A4 n4 r4, .int .i64 k5, .slice A5 n5 r5, .int .i64 k6, .slice A6 n6 r6, .int .i64 k7, .slice A7 n7 r7] 24)
      have hx5 := WblG.of hw5 (.cells #[.int .i64 k2, .slice A2 n2 r2, .int .i64 k3, .slice A3 n3 r3, .int .i64 k4, .slice A4 n4 r4, .int .i64 k5, .slice A5 n5 r5, .int .i64 k6, .slice A6 n6 r6, .int .i64 k7, .slice A7 n7 r7] 24)
      have hx6 := WblG.of hw6 (.cells #[.int .i64 k2, .slice A2 n2 r2, .int .i64 k3, .slice A3 n3 r3, .int .i64 k4, .slice A4 n4 r4, .int .i64 k5, .slice A5 n5 r5, .int .i64 k6, .slice A6 n6 r6, .int .i64 k7, .slice A7 n7 r7] 24)
      have hx7 := WblG.of hw7 (.cells #[.int .i64 k2, .slice A2 n2 r2, .int .i64 k3, .slice A3 n3 r3, .int .i64 k4, .slice A4 n4 r4, .int .i64 k5, .slice A5 n5 r5, .int .i64 k6, .slice A6 n6 r6, .int .i64 k7, .slice A7 n7 r7] 24)
      replace hBW := below_chain hBW ((Below.refl _ _).alloc (Nat.le_refl _) (.cells #[.int .i64 k2, .slice A2 n2 r2, .int .i64 k3, .slice A3 n3 r3, .int .i64 k4, .slice A4 n4 r4, .int .i64 k5, .slice A5 n5 r5, .int .i64 k6, .slice A6 n6 r6, .int .i64 k7, .slice A7 n7 r7] 24)) hBs
      replace hBs := Nat.le_trans hBs ((Below.refl W7.heap.size W7).alloc (Nat.le_refl _) (.cells #[.int .i64 k2, .slice A2 n2 r2, .int .i64 k3, .slice A3 n3 r3, .int .i64 k4, .slice A4 n4 r4, .int .i64 k5, .slice A5 n5 r5, .int .i64 k6, .slice A6 n6 r6, .int .i64 k7, .slice A7 n7 r7] 24)).size
      go_upto_region 11 with fail
      generalize W7.alloc (.cells #[.int .i64 k2, .slice A2 n2 r2, .int .i64 k3, .slice A3 n3 r3, .int .i64 k4, .slice A4 n4 r4, .int .i64 k5, .slice A5 n5 r5, .int .i64 k6, .slice A6 n6 r6, .int .i64 k7, .slice A7 n7 r7] 24) = V at hG hBW hBs hx2 hx3 hx4 hx5 hx6 hx7 ⊢
      have hS0 : Sto V V W1.heap.size W7.heap.size #[.int .i64 k2, .slice A2 n2 r2, .int .i64 k3, .slice A3 n3 r3, .int .i64 k4, .slice A4 n4 r4, .int .i64 k5, .slice A5 n5 r5, .int .i64 k6, .slice A6 n6 r6, .int .i64 k7, .slice A7 n7 r7] [(A2, n2), (A3, n3), (A4, n4), (A5, n5), (A6, n6), (A7, n7)] := ⟨Below.refl _ _, hG, fun p hp => by
        simp only [List.mem_cons, List.not_mem_nil, or_false] at hp
        rcases hp with rfl | rfl | rfl | rfl | rfl | rfl
        · exact hx2
        · exact hx3
        · exact hx4
        · exact hx5
        · exact hx6
        · exact hx7⟩
      clear g2 h2 g3 h3 g4 h4 g5 h5 g6 h6 g7 h7 hG hx2 hx3 hx4 hx5 hx6 hx7 hw2 hB2 hw3 hB3 hw4 hB4 hw5 hB5 hw6 hB6 hw7 hB7
      have hall : ∀ j : Nat, j < 6 → ∃ kj Aj nj rj, nj ≤ 2932031007402 ∧ (Aj, nj) ∈ ([(A2, n2), (A3, n3), (A4, n4), (A5, n5), (A6, n6), (A7, n7)] : List (Option Addr × Nat)) ∧ (#[.int .i64 k2, .slice A2 n2 r2, .int .i64 k3, .slice A3 n3 r3, .int .i64 k4, .slice A4 n4 r4, .int .i64 k5, .slice A5 n5 r5, .int .i64 k6, .slice A6 n6 r6, .int .i64 k7, .slice A7 n7 r7] : Array Value)[j * 2]? = some (.int .i64 kj) ∧ (#[.int .i64 k2, .slice A2 n2 r2, .int .i64 k3, .slice A3 n3 r3, .int .i64 k4, .slice A4 n4 r4, .int .i64 k5, .slice A5 n5 r5, .int .i64 k6, .slice A6 n6 r6, .int .i64 k7, .slice A7 n7 r7] : Array Value)[j * 2 + 1]? = some (.slice Aj nj rj) := by
        intro j hj
        rcases (show j = 0 ∨ j = 1 ∨ j = 2 ∨ j = 3 ∨ j = 4 ∨ j = 5 by omega) with rfl | rfl | rfl | rfl | rfl | rfl
        · exact ⟨k2, A2, n2, r2, hn2, by simp, rfl, rfl⟩
        · exact ⟨k3, A3, n3, r3, hn3, by simp, rfl, rfl⟩
        · exact ⟨k4, A4, n4, r4, hn4, by simp, rfl, rfl⟩
        · exact ⟨k5, A5, n5, r5, hn5, by simp, rfl, rfl⟩
        · exact ⟨k6, A6, n6, r6, hn6, by simp, rfl, rfl⟩
        · exact ⟨k7, A7, n7, r7, hn7, by simp, rfl, rfl⟩
      obtain ⟨cs, hcs⟩ : ∃ cs : Array Value, #[.int .i64 k2, .slice A2 n2 r2, .int .i64 k3, .slice A3 n3 r3, .int .i64 k4, .slice A4 n4 r4, .int .i64 k5, .slice A5 n5 r5, .int .i64 k6, .slice A6 n6 r6, .int .i64 k7, .slice A7 n7 r7] = cs := ⟨_, rfl⟩
      obtain ⟨ps, hps⟩ : ∃ ps : List (Option Addr × Nat), [(A2, n2), (A3, n3), (A4, n4), (A5, n5), (A6, n6), (A7, n7)] = ps := ⟨_, rfl⟩
      rw [hcs, hps] at hall
      rw [hcs, hps] at hS0
      have HALL := Lib.hid hall
      have hbxV := hbx9
      clear hall hcs hps hbx9 hn2 hn3 hn4 hn5 hn6 hn7
      go_wp2_with fail
      go_loopw [19, 20] (fun v19 _ wr => ∃ j : Nat, j ≤ 6 ∧ v19 = .int .i64 j ∧ Sto V wr W1.heap.size W7.heap.size cs ps) (fun v19 _ _ => 6 - (intOf v19).toNat)
      case atStart => exact ⟨0, by omega, rfl, hS0⟩
      case round =>
        obtain ⟨j, hj, rfl, hS⟩ := hrel
        clear hS0
        by_cases hlt : j < 6
        · obtain ⟨kj, Aj, nj, rj, hnj, hmem, c0, c1⟩ := HALL.out j hlt
          have j0 : (0 : Int) ≤ (j : Int) := by omega
          have j1 : (j : Int) < 6 := by omega
          have HC1 := Lib.hid c1
          clear c0 c1
          obtain ⟨wo, rfl⟩ : ∃ wo : World, wo = wr := ⟨_, rfl⟩
          go_wp2_with fail
          go_loopw [20] (fun v20 wr => ∃ k : Nat, k ≤ nj ∧ v20 = .int .i64 k ∧ Sto V wr W1.heap.size W7.heap.size cs ps) (fun v20 _ => nj - (intOf v20).toNat)
          case atStart => exact ⟨0, by omega, rfl, hS⟩
          case round =>
            obtain ⟨k, hk, rfl, hSk⟩ := hrel
            clear hS
            have a1 : wr.cell? ⟨W7.heap.size, j * 2 + 1, none⟩ = some (.slice Aj nj rj) := (hSk.all.cell (j * 2 + 1)).trans HC1.out
            by_cases hlk : k < nj
            · rcases hSk.own _ hmem with h0 | ⟨g, o, e, h1, h2, h3⟩
              · simp only at h0; omega
              · simp only at e h3
                subst e
                have k0 : (0 : Int) ≤ (k : Int) := by omega
                have k1 : (k : Int) < (nj : Int) := by omega
                obtain ⟨h4, h5⟩ := h3 (k * 6 + 1) (by omega)
                obtain ⟨v, hv⟩ := Option.isSome_iff_exists.1 h4
                have hv' : wr.cell? ⟨g, o + k * 6 + 1, none⟩ = some v := hv
                have h5' : wr.frozen? ⟨g, o + k * 6 + 1, none⟩ = false := h5
                have hS2 := hSk.put (o := o) (q := k * 6 + 1) h1 h2 (.int .i64 (-7))
                clear hSk h3 h4 h5 hv
                go_wp2_with fail
                go_roundw
                case rel => exact ⟨k + 1, by omega, by go_num, hS2⟩
                case measure => simp [intOf]; omega
            · have hkn : k = nj := by omega
              have k1 : ¬ (k : Int) < (nj : Int) := by omega
              clear hkn
              go_wp2_with fail
              go_roundw
              case rel => exact ⟨j + 1, by omega, by go_num, hSk⟩
              case measure => simp [intOf]; omega
        · have hj6 : j = 6 := by omega
          subst hj6
          have hbV := below_chain hBW hS.old (Nat.le_refl _)
          have hbw : Boxed w wr K A n c := by
            have := HBX.out
            exact this.moreB hbV HSZ.out
          have c0 := hbw.c0
          have c1 := hbw.c1
          have hB1r := hB1.below hbV hB1.lt
          have e0 : wr.cell? ⟨u1.heap.size, 0, none⟩ = some (.int .i64 K) := (hB1r.cell 0).trans rfl
          have e1 : wr.cell? ⟨u1.heap.size, 1, none⟩ = some (.slice A1 n1 r1) := (hB1r.cell 1).trans rfl
          clear hS hB1r
          go_wp2_with fail
          refine (equal_yes K A A1 n c n1 r1 L L _ (hA.below hbw.below) (hM1.below hbV) rfl).mono ?_
          rintro e x1 ⟨rfl, hb⟩
          go_wp2_with fail
          refine (law_known _).mono ?_
          rintro e zz ⟨rfl, hb2⟩
          go_wp2_with fail
          go_ret
          exact ⟨rfl, ((hbw.more hb).more hb2).below⟩
    · have q : (E != 0) = true := by simpa using hz
      clear hz
      go_enter Tryd.func12, Tryd.ntmps12
      go_wp2_with fail
      generalize w.alloc (.cells #[.int .i64 K, .slice A n c] 24) = X at hbx ⊢
      have hbx0 := hbx
      clear hbx
      refine (law_small K A n c L _ (hA.below hbx0.below)).mono ?_
      rintro e w1 ⟨rfl, hb⟩
      rw [HD.out]
      have hbx1 := hbx0.more hb
      clear hbx0 hb
      have c0 := hbx1.c0
      have c1 := hbx1.c1
      go_wp2_with fail
      refine (ref_Check K A n c L _ (hA.below hbx1.below)).mono ?_
      rintro e w2 ⟨rfl, hb⟩
      rw [HE.out]
      clear c0 c1
      have hbx2 := hbx1.more hb
      clear hbx1 hb
      go_wp2_with fail
      refine (law_known _).mono ?_
      rintro e w3 ⟨rfl, hb⟩
      go_wp2_with fail
      go_ret
      exact ⟨rfl, (hbx2.more hb).below⟩
  · have HD := Lib.hid (show decide (n ≤ 60) = false by simpa using h60)
    go_enter Tryd.func12, Tryd.ntmps12
    go_wp2_with fail
    generalize w.alloc (.cells #[.int .i64 K, .slice A n c] 24) = X at hbx ⊢
    have hbx0 := hbx
    clear hbx
    refine (law_small K A n c L _ (hA.below hbx0.below)).mono ?_
    rintro e w1 ⟨rfl, hb⟩
    rw [HD.out]
    have hbx1 := hbx0.more hb
    clear hbx0 hb
    go_wp2_with fail
    refine (law_known _).mono ?_
    rintro e w2 ⟨rfl, hb⟩
    go_wp2_with fail
    go_ret
    exact ⟨rfl, (hbx1.more hb).below⟩
end Go.Proofs.YtkjcmppaapbabaaDoor
