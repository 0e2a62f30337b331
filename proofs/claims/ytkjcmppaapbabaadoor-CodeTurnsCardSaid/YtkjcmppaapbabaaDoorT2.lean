/-
  Contracts: the document's Forget. Conditions: the letters read and are small.
-/
import Derived.Test.YtkjcmppaapbabaaDoorT1
import Derived.Deep.RegionHeld3
namespace Go.Proofs.YtkjcmppaapbabaaDoor
open Go.RowKit
/-- What a valid code's numbers keep to. -/
structure Tame (K : Int) (L : List Lt) : Prop where
  lo : 0 ≤ K
  hi : K ≤ 40
  len : L.length ≤ 400
  pass : ∀ i, i < L.length → isP (la L i) = true → 0 ≤ (la L i).gate ∧ (la L i).gate ≤ K ∧ 1 ≤ (la L i).rank ∧ (la L i).rank ≤ 400
  kinds : ∀ i, i < L.length → isP (la L i) = true ∨ isC (la L i) = true
  sign : ∀ i, i < L.length → isC (la L i) = true → (la L i).sign = 1 ∨ (la L i).sign = -1
theorem check_parts {K : Int} {L : List Lt} (h : checkE K L = 0) : 0 ≤ K ∧ K ≤ 40 ∧ L.length ≤ 400 ∧ (L.length = 0 ∨ validB2 K L = true) := by
  unfold checkE at h
  by_cases h1 : 400 < L.length ∨ 200 < cN L L.length
  · rw [if_pos h1] at h; cases h
  · rw [if_neg h1] at h
    by_cases h2 : K < 0 ∨ 40 < K
    · rw [if_pos h2] at h; cases h
    · rw [if_neg h2] at h
      by_cases h3 : L.length = 0
      · exact ⟨by omega, by omega, by omega, .inl h3⟩
      · rw [if_neg h3] at h
        cases hv : validB2 K L with
        | true => exact ⟨by omega, by omega, by omega, .inr rfl⟩
        | false => rw [hv] at h; cases h
theorem tame_of_check {K : Int} {L : List Lt} (h : checkE K L = 0) : Tame K L := by
  obtain ⟨h1, h2, h3, h4⟩ := check_parts h
  rcases h4 with h4 | h4
  · exact ⟨h1, h2, h3, fun i hi => by omega, fun i hi => by omega, fun i hi => by omega⟩
  · rcases Nat.eq_zero_or_pos L.length with h0 | h0
    · exact ⟨h1, h2, h3, fun i hi => by omega, fun i hi => by omega, fun i hi => by omega⟩
    · have g := good_of_valid h0 h4
      refine ⟨h1, h2, h3, fun i hi hp => ?_, g.kinds, fun i hi hc => ?_⟩
      · have a1 := g.gates i hi hp
        have a2 := g.rank hp
        have a3 : gN L (la L i).gate L.length ≤ L.length := countTo_le _ _
        omega
      · unfold validB2 at h4
        rw [← letters_iff] at h4
        simp only [Bool.and_eq_true] at h4
        have h5 := h4.1.2.1.1
        unfold lettersP at h5
        have h6 := allTo_iff.1 h5 i hi
        have k2 : (la L i).kind = 2 := by unfold isC at hc; simpa using hc
        unfold lpB at h6
        rw [if_neg (by omega), if_pos k2] at h6
        simp only [decide_eq_true_eq] at h6
        exact h6.2.2
/-- A copy under way: the copy's letters, the block of the copy, older memory. -/
structure Cpy (X wr : World) (oB : Nat) (K : Int) (A : Option Addr) (n c : Nat) (M : List Lt) : Prop where
  own : OwnL wr X.heap.size A n c M
  bk : Blk wr oB 24 #[.int .i64 K, .slice A n c]
  far : ∀ q, blk A = some q → q ≠ oB
  old : Below X.heap.size X wr
section
variable {X wr wx : World} {oB : Nat} {K : Int} {A : Option Addr} {n c : Nat} {M : List Lt}
theorem Cpy.next (h : Cpy X wr oB K A n c M) (hb : Below wr.heap.size wr wx) : Cpy X wx oB K A n c M := ⟨h.own.next hb, h.bk.below hb h.bk.lt, h.far, below_chain h.old hb h.old.size⟩
theorem Cpy.alloc (h : Cpy X wr oB K A n c M) (o : Obj) : Cpy X (wr.alloc o) oB K A n c M := h.next ((Below.refl _ _).alloc (Nat.le_refl _) o)
theorem Cpy.c0 (h : Cpy X wr oB K A n c M) : wr.cell? ⟨oB, 0, none⟩ = some (.int .i64 K) := (h.bk.cell 0).trans rfl
theorem Cpy.c1 (h : Cpy X wr oB K A n c M) : wr.cell? ⟨oB, 1, none⟩ = some (.slice A n c) := (h.bk.cell 1).trans rfl
theorem Cpy.put {g o j i q : Nat} {x x' : Lt} {u : Value} (h : Cpy X wr oB K (some ⟨g, o, none⟩) n c M) (hx : M[j]? = some x) (hi : i < 6) (he : ltC x' = (ltC x).set i u) (hok : LtOk x') (hq : q = j * 6 + i) :
    Cpy X (wr.setCell ⟨g, o + q, none⟩ u) oB K (some ⟨g, o, none⟩) n c (M.set j x') :=
  ⟨h.own.put hx hi he hok hq, h.bk.far (fun e => h.far g rfl e.symm) u, h.far, h.old.setCell (p := ⟨g, o + q, none⟩) (h.own.row.at_ _ rfl).2.1 u⟩
theorem Cpy.free {g o j i : Nat} (h : Cpy X wr oB K (some ⟨g, o, none⟩) n c M) (hj : j < n) (hi : i < 6) : wr.frozen? ⟨g, o + j * 6 + i, none⟩ = false := by
  have := h.own.row.cap
  have e := h.own.row.free (j := j * 6 + i) (by omega)
  rw [← Nat.add_assoc] at e
  exact e
end
set_option maxRecDepth 100000 in
set_option maxHeartbeats 6400000 in
theorem cref_Forget (K : Int) (f : Nat) (A : Option Addr) (n c : Nat) (L : List Lt) (w : World) (hA : Lets w A n L) (hs : Tame K L) (hf1 : 1 ≤ f) (hf2 : f ≤ 40) :
    Calls Tryd.prog 37 #[.agg #[.int .i64 K, .slice A n c], .int .i64 f] w (GivesC w (K - 1) (forgetL L f)) := by
  have hle := hA.le
  have hLn := Lib.hid hA.len
  have hK0 := hs.lo
  have hK4 := hs.hi
  have HS := Lib.hid hs
  have hn4 : n ≤ 400 := by have := hs.len; have := hA.len; omega
  have hbx : Boxed w ((w.alloc (.cells #[.int .i64 K, .slice A n c] 24)).alloc (.cells #[.int .i64 0, .slice none 0 0] 24)) K A n c := (Boxed.refl w K A n c).alloc _
  have hR0 : Blk ((w.alloc (.cells #[.int .i64 K, .slice A n c] 24)).alloc (.cells #[.int .i64 0, .slice none 0 0] 24)) (w.heap.size + 1) 24 #[.int .i64 0, .slice none 0 0] := heap_alloc2_new w _ _
  clear hs
  go_enter Tryd.func37, Tryd.ntmps37
  go_wp2_with fail
  generalize (w.alloc (.cells #[.int .i64 K, .slice A n c] 24)).alloc (.cells #[.int .i64 0, .slice none 0 0] 24) = X at hbx hR0 ⊢
  refine (cref_Copy K A n c L _ (hA.below hbx.below)).mono ?_
  rintro e w1 ⟨A1, n1, c1, rfl, hown, hb1⟩
  obtain rfl : n1 = n := by rw [← hown.len, hLn.out]
  have hX := hR0.lt
  have hsz1 := hb1.size
  have hC0 : Cpy X (w1.alloc (.cells #[.int .i64 (K - 1), .slice A1 n1 c1] 24)) w1.heap.size (K - 1) A1 n1 c1 L :=
    ⟨hown.alloc _, Blk.new _ _ _, fun q hq => Nat.ne_of_lt (hown.row.lt q hq).2, hb1.alloc hsz1 _⟩
  have hst : Hid (Upto (fgLt L f) L L 0) := Lib.hid (Upto.zero _ _)
  clear hb1 hown
  go_wp2_with fail
  go_loopw [6] (fun v6 wr => ∃ (i : Nat) (Lw : List Lt), i ≤ n1 ∧ v6 = .int .i64 i ∧ Cpy X wr w1.heap.size (K - 1) A1 n1 c1 Lw ∧ Hid (Upto (fgLt L f) L Lw i)) (fun v6 _ => n1 - (intOf v6).toNat)
  case atStart => exact ⟨0, L, Nat.zero_le _, rfl, hC0, hst⟩
  case round =>
    obtain ⟨i, Lw, hi, rfl, hC, HU⟩ := hrel
    clear hC0 hst
    have hbw := below_chain hbx.below hC.old (by omega)
    have o0 := hC.c0
    have o1 := hC.c1
    have e0 := (hbx.more hC.old).c0
    have e1 := (hbx.more hC.old).c1
    have hszr := hC.old.size
    have hblt := hC.bk.lt
    by_cases hlt : i < n1
    · obtain ⟨ga, oa, rfl, hga, hxa, hok⟩ := (hA.below hbw).at_ hlt
      obtain ⟨gg, o, rfl, hgg, hx, _⟩ := hC.own.lets.at_ hlt
      have hlw : la Lw i = la L i := by rw [HU.out.2 i (by rw [hLn.out]; exact hlt), if_neg (by omega)]
      have hgi : Lw[i]? = some (la L i) := by rw [la_get (by rw [hC.own.len]; exact hlt), hlw]
      rw [hlw] at hx
      obtain ⟨y0, y1, y2, y3, y4, y5⟩ := hx
      obtain ⟨z0, z1, z2, z3, z4, z5⟩ := hxa
      have i0 : (0 : Int) ≤ (i : Int) := by omega
      have i1 : (i : Int) < (n1 : Int) := by omega
      have f1 := hC.free hlt (i := 1) (by omega)
      have f2 := hC.free hlt (i := 2) (by omega)
      have m1 : gg ≠ w1.heap.size := hC.far gg rfl
      have HOK := Lib.hid hok
      have HGI := Lib.hid hgi
      clear hok hgi hlw
      by_cases hk1 : (la L i).kind = 1
      · have q1 : ((la L i).kind != 1) = false := by simpa using hk1
        have hp := isP_t hk1
        obtain ⟨b1, b2, b3, b4⟩ := HS.out.pass i (by rw [hLn.out]; exact hlt) hp
        have HP := Lib.hid hp
        clear hk1 hp
        have hokg : ∀ r, I64 r → LtOk { la L i with gate := (la L i).gate - 1, rank := r } := fun r hr => ⟨HOK.out.kind, ⟨by simp only []; omega, by simp only []; omega⟩, hr, HOK.out.id, HOK.out.sign⟩
        have HOG := Lib.hid hokg
        clear hokg
        by_cases hg1 : (la L i).gate < (f : Int)
        · have HU1 := Lib.hid (HU.out.skip (fg_no (L := L) (f := f) (l := la L i) (by omega)))
          have q2 : decide ((f : Int) ≤ (la L i).gate) = false := by simp; omega
          have q3 : ((la L i).gate == (f : Int)) = false := by simp; omega
          clear HU
          go_wp2_with fail
          go_roundw
          case rel => exact ⟨i + 1, Lw, by omega, by go_num, hC.alloc _, HU1⟩
          case measure => simp [intOf]; omega
        · by_cases hg2 : (la L i).gate = (f : Int)
          · have q3 : ((la L i).gate == (f : Int)) = true := by simpa using hg2
            have q2 : decide ((f : Int) ≤ (la L i).gate) = true := by simp; omega
            obtain ⟨fm, hfm⟩ : ∃ fm : Nat, (f : Int) - 1 = (fm : Int) := ⟨f - 1, by omega⟩
            have hgn := gN_lt L (fm : Int) n1
            obtain ⟨G, hG⟩ : ∃ G : Nat, gN L (fm : Int) n1 = G := ⟨_, rfl⟩
            have hgb2 : (G : Int) ≤ 400 := by omega
            have hr64 : I64 ((la L i).rank + (G : Int)) := ⟨by omega, by omega⟩
            have hokr : LtOk { la L i with rank := (la L i).rank + (G : Int) } := ⟨HOK.out.kind, HOK.out.gate, hr64, HOK.out.id, HOK.out.sign⟩
            have HU1 := Lib.hid (HU.out.set (by rw [hLn.out]; exact hlt) (x := { la L i with gate := (la L i).gate - 1, rank := (la L i).rank + (G : Int) }) (by
              rw [fg_eq (L := L) (f := f) HP.out hg2, hLn.out, hfm, hG]))
            have HG := Lib.hid hG
            have HFM := Lib.hid hfm
            have HRK := Lib.hid hokr
            have HG2 := Lib.hid hg2
            have hin : ∀ W, Below w.heap.size w W → Calls Tryd.prog 89 #[.agg #[.int .i64 K, .slice (some ⟨ga, oa, none⟩) n1 c], .int .i64 (fm : Int)] W fun e w' => e = .returned (.int .i64 (G : Int)) ∧ Below W.heap.size W w' := fun W hW => by rw [← HG.out]; exact ref_In K fm _ n1 c L W (hA.below hW)
            have HIN := Lib.hid hin
            have v1 : IntKind.i64.wrap ((la L i).rank + (G : Int)) = (la L i).rank + (G : Int) := IntWalk.i64_in _ hr64
            have v2 : IntKind.i64.wrap ((f : Int) - 1) = (fm : Int) := by rw [hfm]; exact IntWalk.i64_in _ (by omega)
            clear HU hg2 hG hgn hin hfm hokr hr64
            have hm2 : gg ≠ w.heap.size := by have := (hC.own.row.at_ _ rfl).2.1; simp only [] at this; omega
            have hm3 : gg ≠ wr.heap.size := by omega
            have hCr := hC.alloc (.cells #[.int .i64 (la L i).kind, .int .i64 (la L i).gate, .int .i64 (la L i).rank, .int .i64 (la L i).id, .int .i64 (la L i).sign, .bool (la L i).over] 46)
            have hBl := Blk.new wr 46 #[.int .i64 (la L i).kind, .int .i64 (la L i).gate, .int .i64 (la L i).rank, .int .i64 (la L i).id, .int .i64 (la L i).sign, .bool (la L i).over]
            have hgX : X.heap.size ≤ gg := (hC.own.row.at_ _ rfl).2.1
            go_upto_region 9 with fail
            generalize hW : wr.alloc (.cells #[.int .i64 (la L i).kind, .int .i64 (la L i).gate, .int .i64 (la L i).rank, .int .i64 (la L i).id, .int .i64 (la L i).sign, .bool (la L i).over] 46) = W at hCr hBl ⊢
            have hWs : wr.heap.size < W.heap.size := hBl.lt
            have hWr : Below wr.heap.size wr W := by rw [← hW]; exact (Below.refl _ _).alloc (Nat.le_refl _) _
            clear hW
            have w0 : W.cell? ⟨w.heap.size, 0, none⟩ = some (.int .i64 K) := (hWr.cell (p := ⟨w.heap.size, 0, none⟩) (by simp; omega)).trans e0
            have w2 : W.cell? ⟨w.heap.size, 1, none⟩ = some (.slice (some ⟨ga, oa, none⟩) n1 c) := (hWr.cell (p := ⟨w.heap.size, 1, none⟩) (by simp; omega)).trans e1
            have w3 : W.cell? ⟨w1.heap.size, 1, none⟩ = some (.slice (some ⟨gg, o, none⟩) n1 c1) := hCr.c1
            have w4 : W.cell? ⟨wr.heap.size, 2, none⟩ = some (.int .i64 (la L i).rank) := (hBl.cell 2).trans rfl
            have w5 : W.cell? ⟨wr.heap.size, 1, none⟩ = some (.int .i64 (la L i).gate) := (hBl.cell 1).trans rfl
            have w6 : W.cell? ⟨gg, o + i * 6 + 2, none⟩ = some (.int .i64 (la L i).rank) := (hWr.cell (p := ⟨gg, o + i * 6 + 2, none⟩) hgg).trans y2
            have w7 : W.frozen? ⟨gg, o + i * 6 + 2, none⟩ = false := hCr.free hlt (i := 2) (by omega)
            have hS0 : ∀ wx, Below W.heap.size W wx → (Below X.heap.size W wx ∧ wx.cell? ⟨w.heap.size, 0, none⟩ = some (.int .i64 K) ∧ wx.cell? ⟨w.heap.size, 1, none⟩ = some (.slice (some ⟨ga, oa, none⟩) n1 c) ∧ wx.cell? ⟨w1.heap.size, 1, none⟩ = some (.slice (some ⟨gg, o, none⟩) n1 c1) ∧ wx.cell? ⟨wr.heap.size, 2, none⟩ = some (.int .i64 (la L i).rank)) := fun wx h =>
              ⟨h.mono (by omega), (h.cell (p := ⟨w.heap.size, 0, none⟩) (by simp; omega)).trans w0, (h.cell (p := ⟨w.heap.size, 1, none⟩) (by simp; omega)).trans w2, (h.cell (p := ⟨w1.heap.size, 1, none⟩) (by simp; omega)).trans w3, (h.cell (p := ⟨wr.heap.size, 2, none⟩) hWs).trans w4⟩
            have hS1 : ∀ wx, Below W.heap.size W wx → (Below X.heap.size W (wx.setCell ⟨gg, o + i * 6 + 2, none⟩ (.int .i64 ((la L i).rank + (G : Int)))) ∧ (wx.setCell ⟨gg, o + i * 6 + 2, none⟩ (.int .i64 ((la L i).rank + (G : Int)))).cell? ⟨w.heap.size, 0, none⟩ = some (.int .i64 K) ∧ (wx.setCell ⟨gg, o + i * 6 + 2, none⟩ (.int .i64 ((la L i).rank + (G : Int)))).cell? ⟨w.heap.size, 1, none⟩ = some (.slice (some ⟨ga, oa, none⟩) n1 c) ∧ (wx.setCell ⟨gg, o + i * 6 + 2, none⟩ (.int .i64 ((la L i).rank + (G : Int)))).cell? ⟨w1.heap.size, 1, none⟩ = some (.slice (some ⟨gg, o, none⟩) n1 c1) ∧ (wx.setCell ⟨gg, o + i * 6 + 2, none⟩ (.int .i64 ((la L i).rank + (G : Int)))).cell? ⟨wr.heap.size, 2, none⟩ = some (.int .i64 (la L i).rank)) := fun wx h => by
              obtain ⟨s0, s1, s2, s3, s4⟩ := hS0 wx h
              refine ⟨s0.setCell (p := ⟨gg, o + i * 6 + 2, none⟩) hgX _, ?_, ?_, ?_, ?_⟩
              · rw [World.cell?_setCell_other _ _ _ _ (by intro e; injection e with e; omega)]; exact s1
              · rw [World.cell?_setCell_other _ _ _ _ (by intro e; injection e with e; omega)]; exact s2
              · rw [World.cell?_setCell_other _ _ _ _ (by intro e; injection e with e; omega)]; exact s3
              · rw [World.cell?_setCell_other _ _ _ _ (by intro e; injection e with e; omega)]; exact s4
            have KP := Lib.hid hS0
            have KS := Lib.hid hS1
            have hww := hbx.below.size
            have hwW : Below w.heap.size w W := below_chain hbw hWr (by omega)
            have hgW : gg < W.heap.size := by omega
            clear hS0 hS1
            first
              | go_region_held3 (fun wx => Below X.heap.size W wx ∧ wx.cell? ⟨w.heap.size, 0, none⟩ = some (.int .i64 K) ∧ wx.cell? ⟨w.heap.size, 1, none⟩ = some (.slice (some ⟨ga, oa, none⟩) n1 c) ∧ wx.cell? ⟨w1.heap.size, 1, none⟩ = some (.slice (some ⟨gg, o, none⟩) n1 c1) ∧ wx.cell? ⟨wr.heap.size, 2, none⟩ = some (.int .i64 (la L i).rank)) (first | assumption | exact KP.out _ (Below.refl _ _).drew | exact KP.out _ (by assumption) | exact KS.out _ (by assumption))
                  ((go_at_call 89; refine (HIN.out _ (below_chain hwW (Below.refl _ _).drew (by omega))).mono ?_; rintro e wy ⟨rfl, hby⟩; have hbz : Below W.heap.size W wy := below_chain (Below.refl W.heap.size W).drew hby (Nat.le_refl _); have u1 : wy.cell? ⟨gg, o + i * 6 + 2, none⟩ = some (.int .i64 (la L i).rank) := (Below.cell hby (p := ⟨gg, o + i * 6 + 2, none⟩) hgW).trans w6; have u2 : wy.frozen? ⟨gg, o + i * 6 + 2, none⟩ = false := (Below.frozen hby (p := ⟨gg, o + i * 6 + 2, none⟩) hgW).trans w7))
              | fail
            all_goals
              have hbz' : Below W.heap.size W wy := by assumption
              have hCy := hCr.next hbz'
              have g0 : wy.cell? ⟨wr.heap.size, 1, none⟩ = some (.int .i64 (la L i).gate) := (hbz'.cell (p := ⟨wr.heap.size, 1, none⟩) hWs).trans w5
              have g1 := hCy.c1
              have g2 : wy.cell? ⟨gg, o + i * 6 + 1, none⟩ = some (.int .i64 (la L i).gate) := (hbz'.cell (p := ⟨gg, o + i * 6 + 1, none⟩) hgW).trans ((hWr.cell (p := ⟨gg, o + i * 6 + 1, none⟩) hgg).trans y1)
              have g3 := hCy.free hlt (i := 1) (by omega)
              have hC1 := hCy.put (i := 2) (u := .int .i64 ((la L i).rank + (G : Int))) (x' := { la L i with rank := (la L i).rank + (G : Int) }) HGI.out (by omega) rfl HRK.out rfl
              have hC2 := hC1.put (i := 1) (j := i) (x := { la L i with rank := (la L i).rank + (G : Int) }) (u := .int .i64 ((la L i).gate - 1)) (x' := { la L i with gate := (la L i).gate - 1, rank := (la L i).rank + (G : Int) }) (by rw [List.getElem?_set_self (by rw [hCy.own.len]; exact hlt)]) (by omega) rfl (HOG.out _ HRK.out.rank) rfl
              rw [List.set_set] at hC2
              clear hCy hC1 v1 v2 w0 w2 w3 w4 w5 w6 w7 hbz' y0 y1 y2 y3 y4 y5 z0 z1 z2 z3 z4 z5 KP KS
              go_wp2_with fail
              go_roundw
              case rel => exact ⟨i + 1, _, by omega, by go_num, hC2, HU1⟩
              case measure => simp [intOf]; omega
          · have q3 : ((la L i).gate == (f : Int)) = false := by simpa using hg2
            have q2 : decide ((f : Int) ≤ (la L i).gate) = true := by simp; omega
            have HU1 := Lib.hid (HU.out.set (by rw [hLn.out]; exact hlt) (fg_up (L := L) (f := f) HP.out (by omega)).symm)
            have hC1 := hC.put (i := 1) (u := .int .i64 ((la L i).gate - 1)) (x' := { la L i with gate := (la L i).gate - 1 }) HGI.out (by omega) rfl (HOG.out _ HOK.out.rank) rfl
            clear HU hg2
            go_wp2_with fail
            go_roundw
            case rel => exact ⟨i + 1, _, by omega, by go_num, hC1.alloc _, HU1⟩
            case measure => simp [intOf]; omega
      · have q1 : ((la L i).kind != 1) = true := by simpa using hk1
        have HU1 := Lib.hid (HU.out.skip (fg_no (L := L) (f := f) (l := la L i) (by rw [isP_f hk1]; simp)))
        clear hk1 HU
        go_wp2_with fail
        go_roundw
        case rel => exact ⟨i + 1, Lw, by omega, by go_num, hC.alloc _, HU1⟩
        case measure => simp [intOf]; omega
    · have hin : i = n1 := by omega
      have hU := HU.out
      rw [hin, ← hLn.out] at hU
      have hLf := hU.all
      have hown := hC.own
      rw [hLf] at hown
      have i1 : ¬ (i : Int) < (n1 : Int) := by omega
      have hR3 := hR0.below hC.old hX
      have r0 : wr.cell? ⟨w.heap.size + 1, 0, none⟩ = some (.int .i64 0) := (hR3.cell 0).trans rfl
      have r1 : wr.cell? ⟨w.heap.size + 1, 1, none⟩ = some (.slice none 0 0) := (hR3.cell 1).trans rfl
      have z0 := hR3.frozen 0
      have z1 := hR3.frozen 1
      have hS : Blk ((wr.setCell ⟨w.heap.size + 1, 0, none⟩ (.int .i64 (K - 1))).setCell ⟨w.heap.size + 1, 1, none⟩ (.slice A1 n1 c1)) (w.heap.size + 1) 24 #[.int .i64 (K - 1), .slice A1 n1 c1] := (hR3.set_ 0 _).set_ 1 _
      have gS := only_setCell (only_setCell (World.grownBy.refl wr (some (w.heap.size + 1))) (p := ⟨w.heap.size + 1, 0, none⟩) (.inl rfl) (.int .i64 (K - 1))) (p := ⟨w.heap.size + 1, 1, none⟩) (.inl rfl) (.slice A1 n1 c1)
      have hbS := ((below_chain hbx.below hC.old (by omega)).setCell (p := ⟨w.heap.size + 1, 0, none⟩) (by simp) (.int .i64 (K - 1))).setCell (p := ⟨w.heap.size + 1, 1, none⟩) (by simp) (.slice A1 n1 c1)
      have hLk : OwnL ((wr.setCell ⟨w.heap.size + 1, 0, none⟩ (.int .i64 (K - 1))).setCell ⟨w.heap.size + 1, 1, none⟩ (.slice A1 n1 c1)) w.heap.size A1 n1 c1 (forgetL L f) := by
        refine ⟨(hown.row.kept gS ?_).mono (by omega), hown.fits, hown.le⟩
        cases hb : blk A1 with
        | none => exact .inl rfl
        | some q => exact .inr (by have := (hown.row.lt q hb).1; simp; omega)
      clear hU hLf hin HU hR3 hown gS
      go_wp2_with fail
      (try simp only [Exit.inBlock, Exit.then])
      refine ret_cellB rfl rfl hS Tryd.underlying24 rfl (by kernel_rfl) rfl ?_
      exact ⟨A1, n1, c1, rfl, hLk, hbS⟩
end Go.Proofs.YtkjcmppaapbabaaDoor
