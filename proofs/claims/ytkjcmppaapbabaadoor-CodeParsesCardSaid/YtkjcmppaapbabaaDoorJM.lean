/-
  Contract: the program's rim. Conditions: the diagram of a valid code.
  Contract: the program's face. Conditions: the diagram of a valid code.
  Contract: the program's Faces. Conditions: the letters read.
-/
import Derived.Test.YtkjcmppaapbabaaDoorJF
import Derived.Deep.DeepCutAuto
import Derived.Test.YtkjcmppaapbabaaDoorRev
import Derived.Deep.RegionHeld3
import Derived.WalkMore
namespace Go.Proofs.YtkjcmppaapbabaaDoor
section
open Go.RowKit
theorem below_allocG {B : Nat} {a b : World} {o : Obj} (hB : B ≤ b.heap.size) (h : Below B a b) : Below B a (b.alloc o) := h.alloc hB o
set_option maxRecDepth 100000 in
set_option maxHeartbeats 3200000 in
theorem dia_rim (j base p k : Nat) (A : Option Addr) (n c : Nat) (L : List Lt) (b g2 g3 g4 g6 : Nat) (s : List Bool) (P C ids : List Int) (w : World) (h : DiaF w base p k A n c L b g2 g3 g4 g6 s P C ids) (hk40 : k ≤ 40) (hj : j < (axL L).length) :
    Calls Tryd.prog 124 #[.pointer (some ⟨p, 0, none⟩), .int .i64 j] w (BetwPost w.heap.size w (pieceP (k : Int) L (axL L) j) (pieceF (k : Int) L (axL L) j)) := by
  have hn := h.small
  have g := h.good
  have hLn : L.length = n := h.lets.len
  have hml : (axL L).length ≤ n := by rw [axL_len, ← hLn]; exact pN_le L _
  have hD := h.ranks.dia
  have c0 := hD.c0
  have c1 := hD.c1
  have c3 := hD.c3
  have l0 := hD.lt
  have l3 := h.ranks.axis.lt
  obtain ⟨m, hm⟩ : ∃ m, m = (axL L).length := ⟨_, rfl⟩
  obtain ⟨t, ht⟩ : ∃ t, t = (j + 1) % m := ⟨_, rfl⟩
  have htm : t < m := by rw [ht]; exact Nat.mod_lt _ (by omega)
  have hx1 := ax_pass (L := L) (j := j) hj
  have hx2 := ax_pass (L := L) (j := t) (by rw [← hm]; exact htm)
  have cx := h.ranks.axis.cell (natI_at (k := j) hj)
  have cy := h.ranks.axis.cell (natI_at (k := t) (by rw [← hm]; exact htm))
  have hnx := fun hj1 : j + 1 < (axL L).length => g.next hj1
  have hhd := g.head_rank
  obtain ⟨v1, hv1⟩ : ∃ v1, v1 = xat (axL L) j := ⟨_, rfl⟩
  obtain ⟨v2, hv2⟩ : ∃ v2, v2 = xat (axL L) t := ⟨_, rfl⟩
  have hpP : Hid (pieceP (k : Int) L (axL L) j = if j + 1 < m then spanP (la L v1).gate (la L v1).rank (la L v2).gate else spanP (la L v1).gate (la L v1).rank k ++ spanP 0 0 (la L v2).gate) := by
    unfold Hid pieceP; rw [← hm, ← ht, ← hv1, ← hv2]
  have hpF : Hid (pieceF (k : Int) L (axL L) j = if j + 1 < m then upto (la L v1).gate (la L v2).gate else upto (la L v1).gate k ++ upto 0 (la L v2).gate) := by
    unfold Hid pieceF; rw [← hm, ← ht, ← hv1, ← hv2]
  rw [← hv1] at cx hx1
  rw [← hv2] at cy hx2
  rw [hLn] at hx1 hx2
  rw [← hm] at c3 hj hnx hml
  obtain ⟨gg, o, rfl, hgl, hl1, ho1⟩ := h.lets.at_ hx1.2
  obtain ⟨hl2, ho2⟩ := h.lets.also hx2.2
  obtain ⟨x0, x1, x2, x3, x4, x5⟩ := hl1
  obtain ⟨y0, y1, y2, y3, y4, y5⟩ := hl2
  have ga := g.gates _ (by rw [hLn]; exact hx1.2) hx1.1
  have gb := g.gates _ (by rw [hLn]; exact hx2.2) hx2.1
  have ra := g.rank hx1.1
  have rb := g.rank hx2.1
  have ra' := gN_lt L (la L v1).gate L.length
  have rb' := gN_lt L (la L v2).gate L.length
  rw [hLn] at ra rb ra' rb'
  have hsp : (j + 1 < m ∧ (((la L v1).gate < (la L v2).gate ∧ (la L v2).rank - 1 = 0) ∨ ((la L v1).gate = (la L v2).gate ∧ (la L v2).rank - 1 = (la L v1).rank))) ∨ (j + 1 = m ∧ (la L v2).rank = 1) := by
    by_cases hjm : j + 1 < m
    · left
      have := hnx hjm
      rw [← hv1] at this
      rw [show t = j + 1 by rw [ht]; exact Nat.mod_eq_of_lt hjm] at hv2
      rw [← hv2] at this
      exact ⟨hjm, this⟩
    · right
      have e : j + 1 = m := by omega
      rw [show t = 0 by rw [ht, e]; exact Nat.mod_self m] at hv2
      rw [← hv2] at hhd
      exact ⟨e, hhd⟩
  have q3 : ((j : Int) + 1) % (m : Int) = (t : Int) := by rw [ht]; simp
  have q11 : ((j : Int) + 1).tmod (m : Int) = (t : Int) := by rw [Int.tmod_eq_emod_of_nonneg (by omega)]; exact q3
  have q16 : IntKind.i64.wrap ((j : Int) + 1) = (j : Int) + 1 := IntWalk.i64_in _ (by omega)
  have q17 : IntKind.i64.wrap (t : Int) = (t : Int) := IntWalk.i64_in _ (by omega)
  have q18 : (0 : Int) ≤ (j : Int) + 1 := by omega
  have q19 : ¬ (m : Int) = 0 := by omega
  have q20 : ¬ m = 0 := by omega
  have q22 : (j + 1) % m = t := ht.symm
  have q4 : (0 : Int) ≤ (t : Int) := by omega
  have q5 : (t : Int) < (m : Int) := by omega
  have q7 : (0 : Int) ≤ (j : Int) := by omega
  have q8 : (j : Int) < (m : Int) := by omega
  have v10 : (0 : Int) ≤ (v1 : Int) := by omega
  have v11 : (v1 : Int) < (n : Int) := by omega
  have v20 : (0 : Int) ≤ (v2 : Int) := by omega
  have v21 : (v2 : Int) < (n : Int) := by omega
  have hbp1 := build_place1
  have hbp2 := build_place2
  have hbp0 := build_place0
  have HV1 := Lib.hid hv1
  have HV2 := Lib.hid hv2
  have HT := Lib.hid ht
  have HM := Lib.hid hm
  have HLn := Lib.hid hLn
  have hnk : (la L v1).gate ≤ 40 := by omega
  clear hv1 hv2 ht hm hLn hx1 hx2 hnx hhd hD
  go_enter Tryd.func124, Tryd.ntmps124
  go_upto_region 2 with fail
  have HS : ∀ wx, Below w.heap.size w wx → Below w.heap.size w wx ∧ wx.cell? ⟨p, 1, none⟩ = some (.slice (some ⟨gg, o, none⟩) n c) ∧ wx.cell? ⟨p, 3, none⟩ = some (.slice (some ⟨g3, 0, none⟩) m m) ∧ wx.cell? ⟨g3, j, none⟩ = some (.int .i64 v1) ∧ wx.cell? ⟨g3, t, none⟩ = some (.int .i64 v2) ∧
      wx.cell? ⟨gg, o + v1 * 6, none⟩ = some (.int .i64 (la L v1).kind) ∧ wx.cell? ⟨gg, o + v1 * 6 + 1, none⟩ = some (.int .i64 (la L v1).gate) ∧ wx.cell? ⟨gg, o + v1 * 6 + 2, none⟩ = some (.int .i64 (la L v1).rank) ∧ wx.cell? ⟨gg, o + v1 * 6 + 3, none⟩ = some (.int .i64 (la L v1).id) ∧ wx.cell? ⟨gg, o + v1 * 6 + 4, none⟩ = some (.int .i64 (la L v1).sign) ∧ wx.cell? ⟨gg, o + v1 * 6 + 5, none⟩ = some (.bool (la L v1).over) ∧
      wx.cell? ⟨gg, o + v2 * 6, none⟩ = some (.int .i64 (la L v2).kind) ∧ wx.cell? ⟨gg, o + v2 * 6 + 1, none⟩ = some (.int .i64 (la L v2).gate) ∧ wx.cell? ⟨gg, o + v2 * 6 + 2, none⟩ = some (.int .i64 (la L v2).rank) ∧ wx.cell? ⟨gg, o + v2 * 6 + 3, none⟩ = some (.int .i64 (la L v2).id) ∧ wx.cell? ⟨gg, o + v2 * 6 + 4, none⟩ = some (.int .i64 (la L v2).sign) ∧ wx.cell? ⟨gg, o + v2 * 6 + 5, none⟩ = some (.bool (la L v2).over) :=
    fun wx hb => ⟨hb, (hb.cell l0).trans c1, (hb.cell l0).trans c3, (hb.cell l3).trans cx, (hb.cell l3).trans cy, (hb.cell hgl).trans x0, (hb.cell hgl).trans x1, (hb.cell hgl).trans x2, (hb.cell hgl).trans x3, (hb.cell hgl).trans x4, (hb.cell hgl).trans x5, (hb.cell hgl).trans y0, (hb.cell hgl).trans y1, (hb.cell hgl).trans y2, (hb.cell hgl).trans y3, (hb.cell hgl).trans y4, (hb.cell hgl).trans y5⟩
  go_cut [7, 8] (fun va vb wz => ∃ (wx : World) (ba bb : Nat), wx = wz ∧ va = .pointer (some ⟨ba, 0, none⟩) ∧ vb = .pointer (some ⟨bb, 0, none⟩) ∧ Blk wx ba 46 (ltC (la L v1)).toArray ∧ Blk wx bb 46 (ltC (la L v2)).toArray ∧ Below w.heap.size w wx)
  case first =>
   go_region_held3 (fun wx => Below w.heap.size w wx ∧ wx.cell? ⟨p, 1, none⟩ = some (.slice (some ⟨gg, o, none⟩) n c) ∧ wx.cell? ⟨p, 3, none⟩ = some (.slice (some ⟨g3, 0, none⟩) m m) ∧ wx.cell? ⟨g3, j, none⟩ = some (.int .i64 v1) ∧ wx.cell? ⟨g3, t, none⟩ = some (.int .i64 v2) ∧
      wx.cell? ⟨gg, o + v1 * 6, none⟩ = some (.int .i64 (la L v1).kind) ∧ wx.cell? ⟨gg, o + v1 * 6 + 1, none⟩ = some (.int .i64 (la L v1).gate) ∧ wx.cell? ⟨gg, o + v1 * 6 + 2, none⟩ = some (.int .i64 (la L v1).rank) ∧ wx.cell? ⟨gg, o + v1 * 6 + 3, none⟩ = some (.int .i64 (la L v1).id) ∧ wx.cell? ⟨gg, o + v1 * 6 + 4, none⟩ = some (.int .i64 (la L v1).sign) ∧ wx.cell? ⟨gg, o + v1 * 6 + 5, none⟩ = some (.bool (la L v1).over) ∧
      wx.cell? ⟨gg, o + v2 * 6, none⟩ = some (.int .i64 (la L v2).kind) ∧ wx.cell? ⟨gg, o + v2 * 6 + 1, none⟩ = some (.int .i64 (la L v2).gate) ∧ wx.cell? ⟨gg, o + v2 * 6 + 2, none⟩ = some (.int .i64 (la L v2).rank) ∧ wx.cell? ⟨gg, o + v2 * 6 + 3, none⟩ = some (.int .i64 (la L v2).id) ∧ wx.cell? ⟨gg, o + v2 * 6 + 4, none⟩ = some (.int .i64 (la L v2).sign) ∧ wx.cell? ⟨gg, o + v2 * 6 + 5, none⟩ = some (.bool (la L v2).over))
    (first | (refine HS _ ?_; repeat (first | with_reducible exact Below.refl _ _ | with_reducible apply Below.drew | ((with_reducible refine below_allocG ?_ ?_); focus (first | (simp; done) | (simp; omega))))))
    (fail)
   all_goals
    go_wp2_with fail
    go_meet
   case rel => exact ⟨_, w.heap.size, w.heap.size + 1, rfl, rfl, rfl, (Blk.new w _ _).alloc _, heap_alloc2_new w _ _, (((Below.refl _ _).alloc (Nat.le_refl _) _).alloc (by simp) _).drew⟩
   case rel => exact ⟨_, w.heap.size + 1, w.heap.size, rfl, rfl, rfl, heap_alloc2_new w _ _, (Blk.new w _ _).alloc _, (((Below.refl _ _).alloc (Nat.le_refl _) _).alloc (by simp) _).drew⟩
  case rest =>
    obtain ⟨wx, ba, bb, rfl, rfl, rfl, hBA, hBB, hbx⟩ := hcut
    have z0 := (hbx.cell l0).trans c0
    have a1 : wx.cell? ⟨ba, 1, none⟩ = some (.int .i64 (la L v1).gate) := (hBA.cell 1).trans rfl
    have a2 : wx.cell? ⟨ba, 2, none⟩ = some (.int .i64 (la L v1).rank) := (hBA.cell 2).trans rfl
    have b1 : wx.cell? ⟨bb, 1, none⟩ = some (.int .i64 (la L v2).gate) := (hBB.cell 1).trans rfl
    have b2 : wx.cell? ⟨bb, 2, none⟩ = some (.int .i64 (la L v2).rank) := (hBB.cell 2).trans rfl
    have hzx := hbx.size
    have lp : p < wx.heap.size := by omega
    have lA := hBA.lt
    have lB := hBB.lt
    have HO1 := Lib.hid ho1
    have HO2 := Lib.hid ho2
    have hr1 := ho1.rank
    have hr2 : I64 ((la L v2).rank - 1) := ⟨by omega, by omega⟩
    have HR1 := Lib.hid hr1
    have HR2 := Lib.hid hr2
    clear HS c0 c1 c3 cx cy x0 x1 x2 x3 x4 x5 y0 y1 y2 y3 y4 y5 hBA hBB q3 q11 q16 q17 q22 ho1 ho2 hr1 hr2
    rcases hsp with ⟨hjm, hs⟩ | ⟨hjm, hs⟩
    · have q30 : (j : Int) < (m : Int) - 1 := by omega
      have hP := hpP.out
      have hF := hpF.out
      rw [if_pos hjm, ← betw_span hs] at hP
      rw [if_pos hjm] at hF
      have HP := Lib.hid hP
      have HF := Lib.hid hF
      clear hP hF hpP hpF hs
      go_wp2_with fail
      refine (code_between _ _ _ _ w.heap.size none none 0 0 0 0 [] [] _ (OwnQ.nil _ _) (Own.nil _ _) ga.1 (by omega) gb.1 (by omega) HR1.out HR2.out (by omega) (by omega) (fun k hk => by cases hk) (by simp; omega)).mono ?_
      rintro e w2 ⟨A', n', c', B', m', d', rfl, hQ2, hF2, hap2, hb2⟩
      have hb3 : Below w.heap.size w w2 := ((hbx.alloc hzx _).alloc (by simp; omega) _).trans hb2
      rw [List.nil_append, ← HP.out] at hQ2
      rw [List.nil_append, ← HF.out] at hF2
      go_wp2_with fail
      go_ret2
      exact ⟨A', n', c', B', m', d', rfl, hQ2, hF2, hap2, hb3⟩
    · have q30 : ¬ (j : Int) < (m : Int) - 1 := by omega
      have hP := hpP.out
      have hF := hpF.out
      rw [if_neg (by omega), show spanP 0 0 (la L v2).gate = betwP 0 0 (la L v2).gate ((la L v2).rank - 1) from (betw_span (by omega)).symm] at hP
      rw [if_neg (by omega)] at hF
      clear hpP hpF hs
      have hI0 : I64 (0 : Int) := ⟨by omega, by omega⟩
      have hI1 := HR1.out
      go_upto_region 8 with fail
      obtain ⟨X, hX⟩ : ∃ X, X = ((wx.alloc (.cells #[.int .i64 (la L v1).gate, .int .i64 (la L v1).rank] 50)).alloc (.cells #[.int .i64 (la L v2).gate, .int .i64 ((la L v2).rank - 1)] 50)).alloc (.cells #[.int .i64 (k : Int), .int .i64 0] 50) := ⟨_, rfl⟩
      rw [← hX]
      have h9 : Blk X wx.heap.size 50 #[.int .i64 (la L v1).gate, .int .i64 (la L v1).rank] := by rw [hX]; exact ((Blk.new wx _ _).alloc _).alloc _
      have h10 : Blk X (wx.heap.size + 1) 50 #[.int .i64 (la L v2).gate, .int .i64 ((la L v2).rank - 1)] := by
        rw [hX]
        have : Blk ((wx.alloc (.cells #[.int .i64 (la L v1).gate, .int .i64 (la L v1).rank] 50)).alloc (.cells #[.int .i64 (la L v2).gate, .int .i64 ((la L v2).rank - 1)] 50)) (wx.heap.size + 1) 50 #[.int .i64 (la L v2).gate, .int .i64 ((la L v2).rank - 1)] := heap_alloc2_new wx _ _
        exact this.alloc _
      have h11 : Blk X (wx.heap.size + 1 + 1) 50 #[.int .i64 (k : Int), .int .i64 0] := by
        rw [hX]
        have := Blk.new ((wx.alloc (.cells #[.int .i64 (la L v1).gate, .int .i64 (la L v1).rank] 50)).alloc (.cells #[.int .i64 (la L v2).gate, .int .i64 ((la L v2).rank - 1)] 50)) 50 #[.int .i64 (k : Int), .int .i64 0]
        rwa [show ((wx.alloc (.cells #[.int .i64 (la L v1).gate, .int .i64 (la L v1).rank] 50)).alloc (.cells #[.int .i64 (la L v2).gate, .int .i64 ((la L v2).rank - 1)] 50)).heap.size = wx.heap.size + 1 + 1 by simp] at this
      have hb0 : Below wx.heap.size wx X := by rw [hX]; exact (((Below.refl _ _).alloc (Nat.le_refl _) _).alloc (by simp) _).alloc (by simp; omega) _
      have xA := (hb0.cell lA).trans a1
      have xP := (hb0.cell lp).trans z0
      have hbX := below_chain hbx hb0 hzx
      clear hX hb0 z0 a1 a2 b1 b2
      by_cases hk : (la L v1).gate = (k : Int)
      · have q31 : ((la L v1).gate == (k : Int)) = true := by simpa using hk
        rw [show spanP (la L v1).gate (la L v1).rank (k : Int) = betwP (la L v1).gate (la L v1).rank (la L v1).gate (la L v1).rank by rw [← hk]; exact (betw_span (.inr ⟨rfl, rfl⟩)).symm] at hP
        rw [show upto (la L v1).gate (k : Int) = upto (la L v1).gate (la L v1).gate by rw [← hk]] at hF
        have HP := Lib.hid hP
        have HF := Lib.hid hF
        have HK := Lib.hid hk
        clear hP hF hk
        go_quiet (fail)
        generalize hY : X.drewN nq = Y
        have r9 : Blk Y wx.heap.size 50 #[.int .i64 (la L v1).gate, .int .i64 (la L v1).rank] := by rw [← hY]; exact h9.drewN _
        have r10 : Blk Y (wx.heap.size + 1) 50 #[.int .i64 (la L v2).gate, .int .i64 ((la L v2).rank - 1)] := by rw [← hY]; exact h10.drewN _
        have r11 : Blk Y (wx.heap.size + 1 + 1) 50 #[.int .i64 (k : Int), .int .i64 0] := by rw [← hY]; exact h11.drewN _
        have hbY : Below w.heap.size w Y := by rw [← hY]; exact below_drewN hbX _
        clear hY h9 h10 h11 hbX xA xP
        have s0 : Y.cell? ⟨wx.heap.size, 0, none⟩ = some (.int .i64 (la L v1).gate) := (r9.cell 0).trans rfl
        have s1 : Y.cell? ⟨wx.heap.size, 1, none⟩ = some (.int .i64 (la L v1).rank) := (r9.cell 1).trans rfl
        have s2 : Y.cell? ⟨wx.heap.size + 1 + 1, 0, none⟩ = some (.int .i64 (k : Int)) := (r11.cell 0).trans rfl
        have s3 : Y.cell? ⟨wx.heap.size + 1 + 1, 1, none⟩ = some (.int .i64 0) := (r11.cell 1).trans rfl
        have s4 := r11.frozen 0
        have s5 := r11.frozen 1
        have rZ := (r10.far (p := ⟨wx.heap.size + 1 + 1, 0, none⟩) (by simp) (.int .i64 (la L v1).gate)).far (p := ⟨wx.heap.size + 1 + 1, 1, none⟩) (by simp) (.int .i64 (la L v1).rank)
        have hbZ := (hbY.setCell (p := ⟨wx.heap.size + 1 + 1, 0, none⟩) (by simp; omega) (.int .i64 (la L v1).gate)).setCell (p := ⟨wx.heap.size + 1 + 1, 1, none⟩) (by simp; omega) (.int .i64 (la L v1).rank)
        clear r9 r10 r11
        go_wp2_with fail
        refine (code_between _ _ _ _ _ none none 0 0 0 0 [] [] _ (OwnQ.nil _ _) (Own.nil _ _) ga.1 (by omega) ga.1 (by omega) HR1.out HR1.out (by omega) (by omega) (fun k hk => by cases hk) (Nat.le_refl _)).mono ?_
        rintro e w2 ⟨A1, n1, c1', B1, m1, d1, rfl, hQ1, hF1, hap1, hb1⟩
        have hlq := hQ1.len
        have hlf := hF1.len
        simp only [List.nil_append] at hQ1 hF1
        rw [List.nil_append] at hlq hlf
        have hlq' : n1 ≤ 100 := by rw [← hlq, betw_span (by omega)]; simp [spanP, flatPl, upto_len] <;> omega
        have hlf' : m1 ≤ 100 := by rw [← hlf, upto_len]; omega
        have hsz1 := hb1.size
        have hbw1 := below_chain hbZ hb1 hbZ.size
        have k0 : w2.cell? ⟨wx.heap.size + 1, 0, none⟩ = some (.int .i64 (la L v2).gate) := ((rZ.below hb1 rZ.lt).cell 0).trans rfl
        have k1 : w2.cell? ⟨wx.heap.size + 1, 1, none⟩ = some (.int .i64 ((la L v2).rank - 1)) := ((rZ.below hb1 rZ.lt).cell 1).trans rfl
        have hQm := hQ1.mono hbZ.size
        have hFm := Own.mono hF1 hbZ.size
        have hszZ := hbZ.size
        clear hQ1 hF1 hlq hlf hb1 rZ hbZ
        go_wp2_with fail
        refine (code_between 0 0 _ _ w.heap.size A1 B1 n1 c1' m1 d1 _ _ w2 hQm hFm (by omega) (by omega) gb.1 (by omega) hI0 HR2.out (by omega) (by omega) hap1 (by omega)).mono ?_
        rintro e w3 ⟨A', n', c', B', m', d', rfl, hQ2, hF2, hap2, hb2⟩
        rw [← HP.out] at hQ2
        rw [← HF.out] at hF2
        have hb3 := hbw1.trans hb2
        clear k0 k1 hQm hFm
        go_wp2_with fail
        go_ret2
        exact ⟨A', n', c', B', m', d', rfl, hQ2, hF2, hap2, hb3⟩
      · have q31 : ((la L v1).gate == (k : Int)) = false := by simpa using hk
        rw [show spanP (la L v1).gate (la L v1).rank (k : Int) = betwP (la L v1).gate (la L v1).rank (k : Int) 0 from (betw_span (.inl ⟨by omega, rfl⟩)).symm] at hP
        have HP := Lib.hid hP
        have HF := Lib.hid hF
        have HK := Lib.hid hk
        have hk' : (la L v1).gate < (k : Int) := by omega
        clear hP hF hk
        go_quiet (fail)
        generalize hY : X.drewN nq = Y
        have r9 : Blk Y wx.heap.size 50 #[.int .i64 (la L v1).gate, .int .i64 (la L v1).rank] := by rw [← hY]; exact h9.drewN _
        have r10 : Blk Y (wx.heap.size + 1) 50 #[.int .i64 (la L v2).gate, .int .i64 ((la L v2).rank - 1)] := by rw [← hY]; exact h10.drewN _
        have r11 : Blk Y (wx.heap.size + 1 + 1) 50 #[.int .i64 (k : Int), .int .i64 0] := by rw [← hY]; exact h11.drewN _
        have hbY : Below w.heap.size w Y := by rw [← hY]; exact below_drewN hbX _
        clear hY h9 h10 h11 hbX xA xP
        have s0 : Y.cell? ⟨wx.heap.size, 0, none⟩ = some (.int .i64 (la L v1).gate) := (r9.cell 0).trans rfl
        have s1 : Y.cell? ⟨wx.heap.size, 1, none⟩ = some (.int .i64 (la L v1).rank) := (r9.cell 1).trans rfl
        have s2 : Y.cell? ⟨wx.heap.size + 1 + 1, 0, none⟩ = some (.int .i64 (k : Int)) := (r11.cell 0).trans rfl
        have s3 : Y.cell? ⟨wx.heap.size + 1 + 1, 1, none⟩ = some (.int .i64 0) := (r11.cell 1).trans rfl
        have rZ := r10
        have hbZ := hbY
        clear r9 r10 r11 hbY
        go_wp2_with fail
        refine (code_between _ _ _ _ _ none none 0 0 0 0 [] [] _ (OwnQ.nil _ _) (Own.nil _ _) ga.1 (by omega) (by omega) (by omega) HR1.out hI0 (by omega) (by omega) (fun k hk => by cases hk) (Nat.le_refl _)).mono ?_
        rintro e w2 ⟨A1, n1, c1', B1, m1, d1, rfl, hQ1, hF1, hap1, hb1⟩
        have hlq := hQ1.len
        have hlf := hF1.len
        simp only [List.nil_append] at hQ1 hF1
        rw [List.nil_append] at hlq hlf
        have hlq' : n1 ≤ 100 := by rw [← hlq, betw_span (by omega)]; simp [spanP, flatPl, upto_len] <;> omega
        have hlf' : m1 ≤ 100 := by rw [← hlf, upto_len]; omega
        have hsz1 := hb1.size
        have hbw1 := below_chain hbZ hb1 hbZ.size
        have k0 : w2.cell? ⟨wx.heap.size + 1, 0, none⟩ = some (.int .i64 (la L v2).gate) := ((rZ.below hb1 rZ.lt).cell 0).trans rfl
        have k1 : w2.cell? ⟨wx.heap.size + 1, 1, none⟩ = some (.int .i64 ((la L v2).rank - 1)) := ((rZ.below hb1 rZ.lt).cell 1).trans rfl
        have hQm := hQ1.mono hbZ.size
        have hFm := Own.mono hF1 hbZ.size
        have hszZ := hbZ.size
        clear hQ1 hF1 hlq hlf hb1 rZ hbZ
        go_wp2_with fail
        refine (code_between 0 0 _ _ w.heap.size A1 B1 n1 c1' m1 d1 _ _ w2 hQm hFm (by omega) (by omega) gb.1 (by omega) hI0 HR2.out (by omega) (by omega) hap1 (by omega)).mono ?_
        rintro e w3 ⟨A', n', c', B', m', d', rfl, hQ2, hF2, hap2, hb2⟩
        rw [← HP.out] at hQ2
        rw [← HF.out] at hF2
        have hb3 := hbw1.trans hb2
        clear k0 k1 hQm hFm
        go_wp2_with fail
        go_ret2
        exact ⟨A', n', c', B', m', d', rfl, hQ2, hF2, hap2, hb3⟩
end

section
open Go.RowKit
/-- A face in memory: its block, its own slices. -/
structure FaceM (w : World) (base fb : Nat) (f : Fc) (Ad Ap Af : Option Addr) (nd cd np cp nf cf : Nat) : Prop where
  bk : Blk w fb 38 #[.bool f.above, .slice Ad nd cd, .slice Ap np cp, .slice Af nf cf, .bool f.outer]
  darts : Own w base Ad nd cd f.darts
  places : OwnQ w base Ap np cp f.places
  fingers : Own w base Af nf cf f.fingers
  dp : Apart Ad Ap
  df : Apart Ad Af
  pf : Apart Ap Af
/-- 'append(places, more...)', as a step of a region. -/
theorem stepQ {w : World} {ops : Array Oper} {o : Oper} {a : Act} {K : Act → World → Prop} {Q' : Exit → Act → World → Prop} {E : Prop} (hgd : o.guard = none) (s x : Operand)
    (ho : o.op = .call { callee := .builtin .append, args := #[s, x], argTypes := #[36, 36] })
    {base base2 : Nat} {A : Option Addr} {n c : Nat} {Q : List Plc} {B : Option Addr} {m d : Nat} {M : List Plc} (hs : a.eval s = .slice A n c) (hx : a.eval x = .slice B m d)
    (hQ : OwnQ w base A n c Q) (hM : OwnQ w base2 B m d M) (N : Nat) (hN : n + m = N) (hn : N ≤ 1000000) (hbase : base ≤ w.heap.size)
    (h : ∀ A' c' w', OwnQ w' base A' N c' (Q ++ M) → w.grownBy w' (blk A) → (∀ k, blk A' = some k → blk A = some k ∨ w.heap.size ≤ k) → K (a.put o.dst (.slice A' N c')) w') :
    if Region.wanted o (yielded ops a.tmps) = true then Oper.wp Tryd.prog o a w K Q' else E := by
  obtain ⟨i0, hi, hz0, hz1, hz2⟩ := info_parts plInfo
  refine stepR hgd s x 36 ho 50 i0 _ 2 16 Tryd.underlying36 hi hz0 hz1 hz2 rfl (by decide) hQ.row hM.row.src
    (by
      intro u hu
      obtain ⟨q, _, hq⟩ := List.mem_flatMap.1 hu
      simp [plC] at hq
      rcases hq with rfl | rfl <;> rfl) hs hx N hN (by unfold maxLen; omega) (by omega) hbase ?_
  intro A' c' w' h1 h2 h3 _
  refine h A' c' w' ⟨by rw [List.flatMap_append]; exact h1, fun y hy => ?_⟩ h2 h3
  rcases List.mem_append.1 hy with hy | hy
  · exact hQ.fits y hy
  · exact hM.fits y hy
/-- Behind both appends. -/
structure Both (wz wy : World) (base : Nat) (f : Fc) (Qp : List Plc) (Fp : List Int) (Ad A2 A3 : Option Addr) (nd cd np c2 nf c3 : Nat) : Prop where
  places : OwnQ wy base A2 np c2 (f.places ++ Qp)
  fingers : Own wy base A3 nf c3 (f.fingers ++ Fp)
  darts : Own wy base Ad nd cd f.darts
  dp : Apart Ad A2
  df : Apart Ad A3
  pf : Apart A2 A3
  below : Below base wz wy
theorem ne_row {A B : Option Addr} (h : ∀ q, blk A = some q → blk B ≠ some q) : blk A = none ∨ blk A ≠ blk B := by
  cases hb : blk A with
  | none => exact .inl rfl
  | some q => exact .inr (fun e => h q hb e.symm)
theorem ne_some {A : Option Addr} {g : Nat} (h : ∀ q, blk A = some q → q ≠ g) : blk A = none ∨ blk A ≠ some g := by
  cases hb : blk A with
  | none => exact .inl rfl
  | some q => exact .inr (fun e => h q hb (by simpa using e))
theorem both_pf {wz w2 w3 : World} {base fb : Nat} {f : Fc} {Ad Ap Af A2 A3 : Option Addr} {nd cd np cp nf cf N2 N3 c2 c3 : Nat} {Qp : List Plc} {Fp : List Int} (hM : FaceM wz base fb f Ad Ap Af nd cd np cp nf cf) (hbase : base ≤ wz.heap.size)
    (hQ2 : OwnQ w2 base A2 N2 c2 (f.places ++ Qp)) (hg2 : wz.grownBy w2 (blk Ap)) (hl2 : ∀ k, blk A2 = some k → blk Ap = some k ∨ wz.heap.size ≤ k)
    (hF3 : Own w3 base A3 N3 c3 (f.fingers ++ Fp)) (hg3 : w2.grownBy w3 (blk Af)) (hl3 : ∀ k, blk A3 = some k → blk Af = some k ∨ w2.heap.size ≤ k) : Both wz w3 base f Qp Fp Ad A2 A3 nd cd N2 c2 N3 c3 := by
  have hfl : ∀ q, blk Af = some q → q < wz.heap.size := fun q hq => (hM.fingers.lt q hq).2
  have hdl : ∀ q, blk Ad = some q → q < wz.heap.size := fun q hq => (hM.darts.lt q hq).2
  have hz2 := hg2.size
  refine ⟨hQ2.kept hg3 (ne_row fun q hq e => ?_), hF3, (hM.darts.kept hg2 (ne_row hM.dp)).kept hg3 (ne_row hM.df), fun q hq e => ?_, fun q hq e => ?_, fun q hq e => ?_, ?_⟩
  · rcases hl2 q hq with h | h
    · exact hM.pf q h e
    · have := hfl q e; omega
  · rcases hl2 q e with h | h
    · exact hM.dp q hq h
    · have := hdl q hq; omega
  · rcases hl3 q e with h | h
    · exact hM.df q hq h
    · have := hdl q hq; omega
  · rcases hl3 q e with h | h
    · rcases hl2 q hq with h' | h'
      · exact hM.pf q h' h
      · have := hfl q h; omega
    · have := (hQ2.row.lt q hq).2; omega
  · exact ((Below.refl _ _).grown hg2 hbase (fun k hk => (hM.places.row.lt k hk).1)).trans ((Below.refl _ _).grown hg3 (by omega) (fun k hk => (hM.fingers.lt k hk).1))
theorem both_fp {wz w2 w3 : World} {base fb : Nat} {f : Fc} {Ad Ap Af A2 A3 : Option Addr} {nd cd np cp nf cf N2 N3 c2 c3 : Nat} {Qp : List Plc} {Fp : List Int} (hM : FaceM wz base fb f Ad Ap Af nd cd np cp nf cf) (hbase : base ≤ wz.heap.size)
    (hF3 : Own w3 base A3 N3 c3 (f.fingers ++ Fp)) (hg3 : wz.grownBy w3 (blk Af)) (hl3 : ∀ k, blk A3 = some k → blk Af = some k ∨ wz.heap.size ≤ k)
    (hQ2 : OwnQ w2 base A2 N2 c2 (f.places ++ Qp)) (hg2 : w3.grownBy w2 (blk Ap)) (hl2 : ∀ k, blk A2 = some k → blk Ap = some k ∨ w3.heap.size ≤ k) : Both wz w2 base f Qp Fp Ad A2 A3 nd cd N2 c2 N3 c3 := by
  have hpl : ∀ q, blk Ap = some q → q < wz.heap.size := fun q hq => (hM.places.row.lt q hq).2
  have hdl : ∀ q, blk Ad = some q → q < wz.heap.size := fun q hq => (hM.darts.lt q hq).2
  have hz3 := hg3.size
  refine ⟨hQ2, hF3.kept hg2 (ne_row fun q hq e => ?_), (hM.darts.kept hg3 (ne_row hM.df)).kept hg2 (ne_row hM.dp), fun q hq e => ?_, fun q hq e => ?_, fun q hq e => ?_, ?_⟩
  · rcases hl3 q hq with h | h
    · exact hM.pf q e h
    · have := hpl q e; omega
  · rcases hl2 q e with h | h
    · exact hM.dp q hq h
    · have := hdl q hq; omega
  · rcases hl3 q e with h | h
    · exact hM.df q hq h
    · have := hdl q hq; omega
  · rcases hl2 q hq with h | h
    · rcases hl3 q e with h' | h'
      · exact hM.pf q h h'
      · have := hpl q h; omega
    · have := (hF3.lt q e).2; omega
  · exact ((Below.refl _ _).grown hg3 hbase (fun k hk => (hM.fingers.lt k hk).1)).trans ((Below.refl _ _).grown hg2 (by omega) (fun k hk => (hM.places.row.lt k hk).1))
theorem build_face1 (b : Bool) (w : World) : (Instr.build 38 #[(0, .bool b)]).run Tryd.prog w = .ok (.agg #[.bool b, .slice none 0 0, .slice none 0 0, .slice none 0 0, .bool false]) w := run_build w _ _ _ (by kernel_rfl)
def stepsN (u x b : Nat) : Nat := 2 * u + (if x < b then 1 else 2)
def msF (w : World) (g b : Nat) (v : Value) : Nat := stepsN (unW w g) (intOf v).toNat b
theorem stepsN_lt {u x b : Nat} (h : x < b) : stepsN u x b = 2 * u + 1 := by unfold stepsN; rw [if_pos h]
theorem stepsN_ge {u x b : Nat} (h : ¬x < b) : stepsN u x b = 2 * u + 2 := by unfold stepsN; rw [if_neg h]
theorem stepsN_le {u x b : Nat} : stepsN u x b ≤ 2 * u + 2 := by unfold stepsN; split <;> omega
theorem f1_stop {f : Nat → Nat} {b k : Nat} {s : List Bool} {x : Nat} (hx : x < b) (h : sat s x = true) : face1 f b (k + 1) s x = ([], s) := by
  unfold face1; rw [if_pos hx, if_pos h]
theorem f1_step {f : Nat → Nat} {b k : Nat} {s : List Bool} {x : Nat} (hx : x < b) (h : sat s x = false) : face1 f b (k + 1) s x = (x :: (face1 f b k (s.set x true) (f x)).1, (face1 f b k (s.set x true) (f x)).2) := by
  conv => lhs; unfold face1
  rw [if_pos hx, if_neg (by rw [h]; simp)]
theorem f1_axis {f : Nat → Nat} {b k : Nat} {s : List Bool} {x : Nat} (hx : ¬x < b) : face1 f b (k + 1) s x = (x :: (face1 f b k s (f x)).1, (face1 f b k s (f x)).2) := by
  conv => lhs; unfold face1
  rw [if_neg hx]
theorem fcAdd_dart {K : Int} {L : List Lt} {X : List Nat} {f : Fc} {x n : Nat} (hL : L.length = n) (hx : x < 2 * n) : fcAdd K L X f x = { f with darts := f.darts ++ [(x : Int)] } := by
  unfold fcAdd; rw [hL, if_pos hx]
/-- The walk of one face, from what has been seen. -/
def face1L (L : List Lt) (n : Nat) (s : List Bool) (d : Nat) : List Nat × List Bool := face1 (leftF L (axL L)) (2 * n) (2 * (2 * n) + 2) s d
def FacePost (w : World) (bS gS n : Nat) (f : Fc) (sn : List Bool) (e : Ending) (w' : World) : Prop :=
  ∃ (Ad Ap Af : Option Addr) (nd cd np cp nf cf : Nat), e = .returned (.agg #[.bool f.above, .slice Ad nd cd, .slice Ap np cp, .slice Af nf cf, .bool f.outer]) ∧ OwnB w' bS gS (2 * n) sn ∧ Own w' w.heap.size Ad nd cd f.darts ∧ OwnQ w' w.heap.size Ap np cp f.places ∧ Own w' w.heap.size Af nf cf f.fingers ∧ w.grownBy w' (some gS)
theorem FaceM.next {w w' : World} {base fb : Nat} {f : Fc} {Ad Ap Af : Option Addr} {nd cd np cp nf cf : Nat} (h : FaceM w base fb f Ad Ap Af nd cd np cp nf cf) (hb : Below w.heap.size w w') : FaceM w' base fb f Ad Ap Af nd cd np cp nf cf :=
  ⟨h.bk.below hb h.bk.lt, h.darts.below hb, h.places.next hb, h.fingers.below hb, h.dp, h.df, h.pf⟩
theorem FaceM.kept {w w' : World} {base fb g : Nat} {f : Fc} {Ad Ap Af : Option Addr} {nd cd np cp nf cf : Nat} (h : FaceM w base fb f Ad Ap Af nd cd np cp nf cf) (hg : w.grownBy w' (some g)) (h1 : g < fb) (h2 : fb < base) : FaceM w' base fb f Ad Ap Af nd cd np cp nf cf :=
  ⟨h.bk.grown hg (by simp; omega), h.darts.kept hg (by
    cases hb : blk Ad with
    | none => exact .inl rfl
    | some q => exact .inr (by have := (h.darts.lt q hb).1; simp; omega)), h.places.kept hg (by
    cases hb : blk Ap with
    | none => exact .inl rfl
    | some q => exact .inr (by have := (h.places.row.lt q hb).1; simp; omega)), h.fingers.kept hg (by
    cases hb : blk Af with
    | none => exact .inl rfl
    | some q => exact .inr (by have := (h.fingers.lt q hb).1; simp; omega)), h.dp, h.df, h.pf⟩
set_option maxRecDepth 100000 in
set_option maxHeartbeats 6400000 in
theorem dia_face (d0 base p k : Nat) (A : Option Addr) (n c : Nat) (L : List Lt) (b g2 g3 g4 g6 : Nat) (s : List Bool) (P C ids : List Int) (w0 w : World) (h00 : DiaF w0 base p k A n c L b g2 g3 g4 g6 s P C ids) (hb00 : Below w0.heap.size w0 w) (hk40 : k ≤ 40)
    (gS gB bS bB : Nat) (sn bl : List Bool) (hS : OwnB w bS gS (2 * n) sn) (hB : OwnB w bB gB n bl) (hbl : ∀ j, j < n → sat bl j = !dwn L (j + 1)) (hgS0 : w0.heap.size ≤ gS) (hd0 : d0 < 2 * n) (hun : sat sn d0 = false) :
    Calls Tryd.prog 82 #[.pointer (some ⟨p, 0, none⟩), .int .i64 d0, .slice (some ⟨gS, 0, none⟩) (2 * n) (2 * n), .slice (some ⟨gB, 0, none⟩) n n] w (FacePost w bS gS n (faceOf (k : Int) L (axL L) (face1L L n sn d0).1) (face1L L n sn d0).2) := by
  have h := h00.next hb00
  have hDR : Hid (∀ wr, w.grownBy wr (some gS) → DiaF wr base p k A n c L b g2 g3 g4 g6 s P C ids) := Lib.hid fun wr hg => h00.next (hb00.trans (below_of_only hg hgS0 hb00.size))
  have hn := h.small
  have hD := h.ranks.dia
  have hLn := Lib.hid h.lets.len
  have c1 := hD.c1
  have c3 := hD.c3
  have hbf := build_face1
  obtain ⟨m, hm⟩ : ∃ m, m = (axL L).length := ⟨_, rfl⟩
  have hmn : m ≤ n := by rw [hm, axL_len, hLn.out]; exact pN_le L n
  rw [← hm] at c3
  obtain ⟨e0, he0⟩ : ∃ e0, e0 = d0 / 2 := ⟨_, rfl⟩
  have hen : e0 < n := by omega
  have hcb := hB.cell hen
  rw [hbl e0 hen] at hcb
  have q1 : (d0 : Int) / 2 = (e0 : Int) := by omega
  have q2 : (0 : Int) ≤ (e0 : Int) := by omega
  have q3 : (e0 : Int) < (n : Int) := by omega
  have q4 : (0 : Int) ≤ (d0 : Int) := by omega
  have HE0 := Lib.hid he0
  clear he0
  have HM := Lib.hid hm
  clear hm
  go_enter Tryd.func82, Tryd.ntmps82
  go_wp2_with fail
  obtain ⟨X, hX⟩ : ∃ X, X = w.alloc (.cells #[.bool false, .slice none 0 0, .slice none 0 0, .slice none 0 0, .bool false] 38) := ⟨_, rfl⟩
  rw [← hX]
  have hb0 : Below w.heap.size w X := by rw [hX]; exact (Below.refl _ _).alloc (Nat.le_refl _) _
  have hR0 : Blk X w.heap.size 38 #[.bool false, .slice none 0 0, .slice none 0 0, .slice none 0 0, .bool false] := by rw [hX]; exact Blk.new w _ _
  have e1 := (hb0.cell hD.lt).trans c1
  have e3 := (hb0.cell hD.lt).trans c3
  clear hX c1 c3
  go_step3
  go_wp2_with fail
  go_quiet (fail)
  generalize hY : X.drewN nq = Y
  have hbY : Below w.heap.size w Y := by rw [← hY]; exact below_drewN hb0 _
  have hRY : Blk Y w.heap.size 38 #[.bool false, .slice none 0 0, .slice none 0 0, .slice none 0 0, .bool false] := by rw [← hY]; exact hR0.drewN _
  have ecb := (hbY.cell (World.block_lt_of_cell? w _ hcb)).trans hcb
  clear hY hb0 hR0 e1 e3 hcb
  go_wp2_with fail
  go_step3
  go_wp2_with fail
  have hM0 : FaceM (Y.alloc (.cells #[.bool (dwn L (e0 + 1)), .slice none 0 0, .slice none 0 0, .slice none 0 0, .bool false] 38)) (Y.heap.size + 1) Y.heap.size (fc0 L d0) none none none 0 0 0 0 0 0 :=
    ⟨by unfold fc0; rw [← HE0.out]; exact Blk.new Y _ _, Own.nil _ _, OwnQ.nil _ _, Own.nil _ _, fun k hk => (by cases hk), fun k hk => (by cases hk), fun k hk => (by cases hk)⟩
  have hS0 := hS.below (hbY.alloc hbY.size (.cells #[.bool (dwn L (e0 + 1)), .slice none 0 0, .slice none 0 0, .slice none 0 0, .bool false] 38)) hS.lt
  have hR0 := hRY.alloc (.cells #[.bool (dwn L (e0 + 1)), .slice none 0 0, .slice none 0 0, .slice none 0 0, .bool false] 38)
  have hg0 : w.grownBy (Y.alloc (.cells #[.bool (dwn L (e0 + 1)), .slice none 0 0, .slice none 0 0, .slice none 0 0, .bool false] 38)) (some gS) := only_of (hbY.alloc hbY.size _) _
  obtain ⟨fin, hfin⟩ : ∃ fin, fin = faceOf (k : Int) L (axL L) (face1L L n sn d0).1 := ⟨_, rfl⟩
  obtain ⟨sfin, hsfin⟩ : ∃ sfin, sfin = (face1L L n sn d0).2 := ⟨_, rfl⟩
  have hst : Hid ((face1 (leftF L (axL L)) (2 * n) (2 * (2 * n) + 2) sn d0).1.foldl (fcAdd (k : Int) L (axL L)) (fc0 L d0) = fin ∧ (face1 (leftF L (axL L)) (2 * n) (2 * (2 * n) + 2) sn d0).2 = sfin) := by
    refine Lib.hid ⟨?_, hsfin.symm⟩
    rw [hfin]
    unfold faceOf face1L
    have : xat (face1 (leftF L (axL L)) (2 * n) (2 * (2 * n) + 2) sn d0).1 0 = d0 := by rw [f1_step hd0 hun]; rfl
    rw [this]
  have HFIN := Lib.hid hfin
  have HSFIN := Lib.hid hsfin
  have hu0 : unN sn ≤ 2 * n := by rw [← hS.len]; exact unN_le sn
  have hgSw := hS.lt
  have hDn : dartsN L = 2 * n + 2 * m := by unfold dartsN; rw [hLn.out, HM.out]
  have HDN := Lib.hid hDn
  have hYw := hbY.size
  rw [← hfin, ← hsfin]
  have hYw1 := hRY.lt
  have HG := Lib.hid h.good
  clear hfin hsfin hDn hRY ecb
  go_loopw [12, 13, 14, 15] (fun v12 _ _ _ wr => ∃ (x k' : Nat) (si : List Bool) (f : Fc) (Ad Ap Af : Option Addr) (nd cd np cp nf cf : Nat), x < 2 * n + 2 * m ∧ v12 = .int .i64 x ∧ OwnB wr bS gS (2 * n) si ∧ FaceM wr (Y.heap.size + 1) Y.heap.size f Ad Ap Af nd cd np cp nf cf ∧ w.grownBy wr (some gS) ∧
      Blk wr w.heap.size 38 #[.bool false, .slice none 0 0, .slice none 0 0, .slice none 0 0, .bool false] ∧ nd + unN si ≤ 2 * n ∧ np + 100 * stepsN (unN si) x (2 * n) ≤ 100 * (4 * n + 2) ∧ nf + 100 * stepsN (unN si) x (2 * n) ≤ 100 * (4 * n + 2) ∧ stepsN (unN si) x (2 * n) ≤ k' ∧
      Hid ((face1 (leftF L (axL L)) (2 * n) k' si x).1.foldl (fcAdd (k : Int) L (axL L)) f = fin ∧ (face1 (leftF L (axL L)) (2 * n) k' si x).2 = sfin)) (fun v12 _ _ _ wr => msF wr gS (2 * n) v12)
  case atStart => exact ⟨d0, 2 * (2 * n) + 2, sn, _, none, none, none, 0, 0, 0, 0, 0, 0, by omega, rfl, hS0, hM0, hg0, hR0, by omega, by rw [stepsN_lt hd0]; omega, by rw [stepsN_lt hd0]; omega, by rw [stepsN_lt hd0]; omega, hst⟩
  case round =>
    obtain ⟨x, k', si, f, Ad, Ap, Af, nd, cd, np, cp, nf, cf, hx, rfl, hsi, hMf, hg, hR, hnd, hnp, hnf, hk', HE⟩ := hrel
    clear hM0 hS0 hR0 hg0 hst
    have j0 : (0 : Int) ≤ (x : Int) := by omega
    by_cases hlt : x < 2 * n
    · rw [stepsN_lt hlt] at hnp hnf hk'
      obtain ⟨k', rfl⟩ : ∃ k'', k' = k'' + 1 := ⟨k' - 1, by omega⟩
      have j1 : (x : Int) < 2 * (n : Int) := by omega
      have hcx := hsi.cell hlt
      cases hsx : sat si x with
      | true =>
        rw [hsx] at hcx
        have hE := HE.out
        rw [f1_stop hlt hsx] at hE
        have HE1 := Lib.hid hE
        have a0 : wr.cell? ⟨Y.heap.size, 0, none⟩ = some (.bool f.above) := (hMf.bk.cell 0).trans rfl
        have a1 : wr.cell? ⟨Y.heap.size, 1, none⟩ = some (.slice Ad nd cd) := (hMf.bk.cell 1).trans rfl
        have a2 : wr.cell? ⟨Y.heap.size, 2, none⟩ = some (.slice Ap np cp) := (hMf.bk.cell 2).trans rfl
        have a3 : wr.cell? ⟨Y.heap.size, 3, none⟩ = some (.slice Af nf cf) := (hMf.bk.cell 3).trans rfl
        have a4 : wr.cell? ⟨Y.heap.size, 4, none⟩ = some (.bool f.outer) := (hMf.bk.cell 4).trans rfl
        have b0 : wr.cell? ⟨w.heap.size, 0, none⟩ = some (.bool false) := (hR.cell 0).trans rfl
        have b1 : wr.cell? ⟨w.heap.size, 1, none⟩ = some (.slice none 0 0) := (hR.cell 1).trans rfl
        have b2 : wr.cell? ⟨w.heap.size, 2, none⟩ = some (.slice none 0 0) := (hR.cell 2).trans rfl
        have b3 : wr.cell? ⟨w.heap.size, 3, none⟩ = some (.slice none 0 0) := (hR.cell 3).trans rfl
        have b4 : wr.cell? ⟨w.heap.size, 4, none⟩ = some (.bool false) := (hR.cell 4).trans rfl
        have z0 := hR.frozen 0
        have z1 := hR.frozen 1
        have z2 := hR.frozen 2
        have z3 := hR.frozen 3
        have z4 := hR.frozen 4
        clear hsx HE hE
        have hRf : Blk (((((wr.setCell ⟨w.heap.size, 0, none⟩ (.bool f.above)).setCell ⟨w.heap.size, 1, none⟩ (.slice Ad nd cd)).setCell ⟨w.heap.size, 2, none⟩ (.slice Ap np cp)).setCell ⟨w.heap.size, 3, none⟩ (.slice Af nf cf)).setCell ⟨w.heap.size, 4, none⟩ (.bool f.outer)) w.heap.size 38 #[.bool f.above, .slice Ad nd cd, .slice Ap np cp, .slice Af nf cf, .bool f.outer] := ((((hR.set_ 0 _).set_ 1 _).set_ 2 _).set_ 3 _).set_ 4 _
        have g5 := only_setCell (only_setCell (only_setCell (only_setCell (only_setCell (World.grownBy.refl wr (some w.heap.size)) (p := ⟨w.heap.size, 0, none⟩) (.inl rfl) (.bool f.above)) (p := ⟨w.heap.size, 1, none⟩) (.inl rfl) (.slice Ad nd cd)) (p := ⟨w.heap.size, 2, none⟩) (.inl rfl) (.slice Ap np cp)) (p := ⟨w.heap.size, 3, none⟩) (.inl rfl) (.slice Af nf cf)) (p := ⟨w.heap.size, 4, none⟩) (.inl rfl) (.bool f.outer)
        have w5 := only_setCell (only_setCell (only_setCell (only_setCell (only_setCell hg (p := ⟨w.heap.size, 0, none⟩) (.inr (Nat.le_refl _)) (.bool f.above)) (p := ⟨w.heap.size, 1, none⟩) (.inr (Nat.le_refl _)) (.slice Ad nd cd)) (p := ⟨w.heap.size, 2, none⟩) (.inr (Nat.le_refl _)) (.slice Ap np cp)) (p := ⟨w.heap.size, 3, none⟩) (.inr (Nat.le_refl _)) (.slice Af nf cf)) (p := ⟨w.heap.size, 4, none⟩) (.inr (Nat.le_refl _)) (.bool f.outer)
        have hM5 := hMf.kept g5 (by omega) (by omega)
        have hs5 := hsi.kept g5 (by simp; omega)
        clear hMf hsi hg hR g5
        go_wp2_with fail
        (try simp only [Exit.inBlock, Exit.then])
        refine ret_cellB rfl rfl hRf Tryd.underlying38 rfl (by kernel_rfl) rfl ?_
        have hff : f = fin := HE1.out.1
        have hss : si = sfin := HE1.out.2
        rw [← HFIN.out, ← HSFIN.out, ← hff, ← hss]
        exact ⟨Ad, Ap, Af, nd, cd, np, cp, nf, cf, rfl, hs5, Own.mono hM5.darts (by omega), hM5.places.mono (by omega), Own.mono hM5.fingers (by omega), w5⟩
      | false =>
        rw [hsx] at hcx
        have hus := unN_set hsx
        have hE := HE.out
        rw [f1_step hlt hsx] at hE
        have HE1 := Lib.hid (show (face1 (leftF L (axL L)) (2 * n) k' (si.set x true) (leftF L (axL L) x)).1.foldl (fcAdd (k : Int) L (axL L)) { f with darts := f.darts ++ [(x : Int)] } = fin ∧ (face1 (leftF L (axL L)) (2 * n) k' (si.set x true) (leftF L (axL L) x)).2 = sfin by
          rw [← fcAdd_dart (K := (k : Int)) (X := axL L) hLn.out hlt]
          exact hE)
        have hfx := hsi.frozen x
        have g1 := only_setCell (World.grownBy.refl wr (some gS)) (p := ⟨gS, x, none⟩) (.inl rfl) (.bool true)
        have hMS := hMf.kept g1 (by omega) (by omega)
        have hsS := hsi.stored x true
        have hgS := only_setCell hg (p := ⟨gS, x, none⟩) (.inl rfl) (.bool true)
        have hRS := hR.far (p := ⟨gS, x, none⟩) (by simp; omega) (.bool true)
        have a1 : (wr.setCell ⟨gS, x, none⟩ (.bool true)).cell? ⟨Y.heap.size, 1, none⟩ = some (.slice Ad nd cd) := (hMS.bk.cell 1).trans rfl
        have HszS : Hid ((wr.setCell ⟨gS, x, none⟩ (.bool true)).heap.size = wr.heap.size) := Lib.hid (by simp)
        have HX64 : Hid (I64 (x : Int)) := Lib.hid ⟨by omega, by omega⟩
        have hl := hMf.bk.lt
        have hx' : leftF L (axL L) x < 2 * n + 2 * m := by rw [← HDN.out]; exact HG.out.into (by rw [HDN.out]; exact hx)
        have hu1 := hsi.unW
        clear hsx HE hE g1 hMf hg hR
        go_wp2_with (at_builtin; refine app1m rfl _ _ rfl hMS.darts (x : Int) rfl wr.heap.size HszS.out rfl HX64.out (by omega) (by rw [HszS.out]; omega) ?_; intro A4 c4 w4 hown4 hb4 hg4 hl4; have hg4' := only_trans (World.grownBy_alloc _ _ _) hg4; have hbk4 := hMS.bk.grown hg4' (fun e => absurd (hMS.darts.lt _ e.symm).1 (by omega)); have y1 : w4.cell? ⟨Y.heap.size, 1, none⟩ = some (.slice Ad nd cd) := (hbk4.cell 1).trans rfl; have yf := hbk4.frozen 1)
        have nS : ∀ q, blk Ad = some q → q ≠ gS ∧ q ≠ w.heap.size ∧ q ≠ Y.heap.size := fun q hq => by
          have := (hMS.darts.lt q hq).1
          exact ⟨by omega, by omega, by omega⟩
        have hs4 := hsS.kept hg4' (fun e => (nS _ e.symm).1 rfl)
        have hR4 := hRS.grown hg4' (fun e => (nS _ e.symm).2.1 rfl)
        have hp4 := hMS.places.kept hg4' (by
          cases hb : blk Ap with
          | none => exact .inl rfl
          | some q => exact .inr (fun e => hMS.dp q e.symm hb))
        have hf4 := hMS.fingers.kept hg4' (by
          cases hb : blk Af with
          | none => exact .inl rfl
          | some q => exact .inr (fun e => hMS.df q e.symm hb))
        have g2' := only_setCell (World.grownBy.refl w4 (some Y.heap.size)) (p := ⟨Y.heap.size, 1, none⟩) (.inl rfl) (.slice A4 (nd + 1) c4)
        have hA4 : ∀ q, blk A4 = some q → blk Ad = some q ∨ q = wr.heap.size + 1 := fun q hq => by
          rcases hl4 with e | e
          · exact .inl (by rw [← e]; exact hq)
          · rw [hq, HszS.out] at e
            exact .inr (by simpa using e)
        have hMf2 : FaceM (w4.setCell ⟨Y.heap.size, 1, none⟩ (.slice A4 (nd + 1) c4)) (Y.heap.size + 1) Y.heap.size { f with darts := f.darts ++ [(x : Int)] } A4 Ap Af (nd + 1) c4 np cp nf cf :=
          ⟨hbk4.set_ 1 _, hown4.kept g2' (by
            cases hb : blk A4 with
            | none => exact .inl rfl
            | some q => exact .inr (by have := (hown4.lt q hb).1; simp; omega)), hp4.kept g2' (by
            cases hb : blk Ap with
            | none => exact .inl rfl
            | some q => exact .inr (by have := (hp4.row.lt q hb).1; simp; omega)), hf4.kept g2' (by
            cases hb : blk Af with
            | none => exact .inl rfl
            | some q => exact .inr (by have := (hf4.lt q hb).1; simp; omega)), fun q hq e => by
            rcases hA4 q hq with h1 | h1
            · exact hMS.dp q h1 e
            · have := (hMS.places.row.lt q e).2
              rw [HszS.out] at this
              omega, fun q hq e => by
            rcases hA4 q hq with h1 | h1
            · exact hMS.df q h1 e
            · have := (hMS.fingers.lt q e).2
              rw [HszS.out] at this
              omega, hMS.pf⟩
        have hg2 := only_setCell (only_below hgS hb4 (by omega)) (p := ⟨Y.heap.size, 1, none⟩) (.inr (by simp; omega)) (.slice A4 (nd + 1) c4)
        have hs2 := hs4.kept g2' (by simp; omega)
        have hR2 := hR4.grown g2' (by simp; omega)
        clear nS hs4 hR4 hp4 hf4 g2' hA4 hbk4 hg4 hg4' hl4 hown4 hb4 hMS hsS hgS hRS a1 y1 yf hcx hfx
        refine (dia_left x base p k A n c L b g2 g3 g4 g6 s P C ids _ (hDR.out _ hg2) (by rw [HDN.out]; exact hx)).mono ?_
        rintro e w5 ⟨rfl, hb5⟩
        have hM5 := hMf2.next hb5
        have hs5 := hs2.below hb5 hs2.lt
        have hR5 := hR2.below hb5 hR2.lt
        have hg5 := only_below hg2 hb5 hg2.size
        have hu5 := hs5.unW
        have hst := stepsN_le (u := unN (si.set x true)) (x := leftF L (axL L) x) (b := 2 * n)
        have hst1 := stepsN_lt (u := unN si) hlt
        clear hMf2 hs2 hR2 hg2 hb5
        generalize leftF L (axL L) x = x' at hx' HE1 hst ⊢
        have HST := Lib.hid hst1
        clear hst1
        go_wp2_with fail
        go_roundw
        case rel => exact ⟨x', k', si.set x true, _, A4, Ap, Af, nd + 1, c4, np, cp, nf, cf, hx', rfl, hs5, hM5, hg5, hR5, by omega, by omega, by omega, by omega, HE1⟩
        case measure =>
          have := HST.out
          unfold msF
          rw [hu5, hu1]
          simp [intOf]
          omega
    · rw [stepsN_ge hlt] at hnp hnf hk'
      obtain ⟨k', rfl⟩ : ∃ k'', k' = k'' + 1 := ⟨k' - 1, by omega⟩
      obtain ⟨j, hj⟩ : ∃ j, j = (x - 2 * n) / 2 := ⟨_, rfl⟩
      have hjm : j < m := by omega
      obtain ⟨Qp, hQp⟩ : ∃ Qp, Qp = (if x % 2 = 1 then (pieceP (k : Int) L (axL L) j).reverse else pieceP (k : Int) L (axL L) j) := ⟨_, rfl⟩
      obtain ⟨Fp, hFp⟩ : ∃ Fp, Fp = (if x % 2 = 1 then (pieceF (k : Int) L (axL L) j).reverse else pieceF (k : Int) L (axL L) j) := ⟨_, rfl⟩
      obtain ⟨ou, hou⟩ : ∃ ou, ou = (f.outer || j == m - 1) := ⟨_, rfl⟩
      have hE := HE.out
      rw [f1_axis hlt] at hE
      have HE1 := Lib.hid (show (face1 (leftF L (axL L)) (2 * n) k' si (leftF L (axL L) x)).1.foldl (fcAdd (k : Int) L (axL L)) { f with places := f.places ++ Qp, fingers := f.fingers ++ Fp, outer := ou } = fin ∧ (face1 (leftF L (axL L)) (2 * n) k' si (leftF L (axL L) x)).2 = sfin by
        rw [← show fcAdd (k : Int) L (axL L) f x = { f with places := f.places ++ Qp, fingers := f.fingers ++ Fp, outer := ou } by
          unfold fcAdd; rw [hLn.out, if_neg hlt, ← hj, ← hQp, ← hFp, hou, HM.out]]
        exact hE)
      have hlen := pieceP_len (K := (k : Int)) (L := L) (by omega) HG.out (j := j) (by rw [← HM.out]; exact hjm)
      have hQl : Qp.length ≤ 100 := by
        rw [hQp]
        split
        · rw [List.length_reverse]; exact hlen.1
        · exact hlen.1
      have hFl : Fp.length ≤ 100 := by
        rw [hFp]
        split
        · rw [List.length_reverse]; exact hlen.2
        · exact hlen.2
      have q5 : ((x : Int) - 2 * (n : Int)) / 2 = (j : Int) := by omega
      have q6 : ¬ (x : Int) < 2 * (n : Int) := by omega
      have hx' : leftF L (axL L) x < 2 * n + 2 * m := by rw [← HDN.out]; exact HG.out.into (by rw [HDN.out]; exact hx)
      have hxlt : leftF L (axL L) x < 2 * n := by have := HG.out.axis (d := x) (by rw [hLn.out]; omega) (by rw [HDN.out]; exact hx); rwa [hLn.out] at this
      have hu1 := hsi.unW
      have HJ := Lib.hid hj
      have HQP := Lib.hid hQp
      have HFP := Lib.hid hFp
      have HOU := Lib.hid hou
      have HLEN := Lib.hid hlen
      clear hj hQp hFp hou HE hE hlen
      go_wp2_with fail
      refine (dia_rim j base p k A n c L b g2 g3 g4 g6 s P C ids _ (hDR.out _ hg) hk40 (by rw [← HM.out]; exact hjm)).mono ?_
      rintro e w1 ⟨A1, n1, c1, B1, m1, d1, rfl, hQ1, hF1, hap1, hb1⟩
      have hsz1 := hb1.size
      have hfbr := hMf.bk.lt
      have hApl : ∀ q, blk Ap = some q → q < wr.heap.size := fun q hq => (hMf.places.row.lt q hq).2
      have hAfl : ∀ q, blk Af = some q → q < wr.heap.size := fun q hq => (hMf.fingers.lt q hq).2
      have HAPL := Lib.hid hApl
      have HAFL := Lib.hid hAfl
      clear hApl hAfl
      have hn1 : n1 ≤ 100 := by have := hQ1.len; have := HLEN.out.1; omega
      have hm1 : m1 ≤ 100 := by have := hF1.len; have := HLEN.out.2; omega
      go_upto_if 68 with fail
      go_cut [14, 15] (fun v14 v15 wv => ∃ wz : World, wz = wv ∧ v14 = .slice A1 n1 c1 ∧ v15 = .slice B1 m1 d1 ∧ OwnQ wz wr.heap.size A1 n1 c1 Qp ∧ Own wz wr.heap.size B1 m1 d1 Fp ∧ Below wr.heap.size wr wz)
      case first =>
        by_cases hodd : x % 2 = 1
        · have q7 : ((x : Int) % 2 == 1) = true := by simp; omega
          have hQe := HQP.out
          have hFe := HFP.out
          rw [if_pos hodd] at hQe hFe
          have HQE := Lib.hid hQe
          have HFE := Lib.hid hFe
          clear hQe hFe hodd
          go_wp2_with fail
          refine (slices_reverseQ wr.heap.size A1 n1 c1 _ _ hQ1 (by omega)).mono ?_
          rintro e w2 ⟨rfl, hQ2, hg2⟩
          have hF2 := hF1.kept hg2 (by
            cases hb : blk B1 with
            | none => exact .inl rfl
            | some q => exact .inr (fun e => hap1 q e.symm hb))
          have hb2 := hb1.trans ((Below.refl _ _).grown hg2 hsz1 (fun k hk => (hQ1.row.lt k hk).1))
          clear hQ1 hF1 hg2 hb1
          go_wp2_with fail
          refine (slices_reverse wr.heap.size B1 m1 d1 _ _ hF2).mono ?_
          rintro e w3 ⟨rfl, hF3, hg3⟩
          have hQ3 := hQ2.kept hg3 (by
            cases hb : blk A1 with
            | none => exact .inl rfl
            | some q => exact .inr (fun e => hap1 q hb e.symm))
          have hb3 := hb2.trans ((Below.refl _ _).grown hg3 hb2.size (fun k hk => (hF2.lt k hk).1))
          rw [← HQE.out] at hQ3
          rw [← HFE.out] at hF3
          clear hQ2 hF2 hg3 hb2
          go_wp2_with fail
          go_meet
          case rel => exact ⟨_, rfl, rfl, rfl, hQ3, hF3, hb3⟩
        · have q7 : ((x : Int) % 2 == 1) = false := by simp; omega
          have hQe := HQP.out
          have hFe := HFP.out
          rw [if_neg hodd] at hQe hFe
          rw [← hQe] at hQ1
          rw [← hFe] at hF1
          clear hQe hFe hodd
          go_wp2_with fail
          go_meet
          case rel => exact ⟨_, rfl, rfl, rfl, hQ1, hF1, hb1⟩
      case rest =>
        obtain ⟨wz, rfl, rfl, rfl, hQz, hFz, hbz⟩ := hcut
        have hMz := hMf.next hbz
        have hsz := hsi.below hbz hsi.lt
        have hRz := hR.below hbz hR.lt
        have hgz := only_below hg hbz hg.size
        have hszz := hbz.size
        clear hMf hsi hR hg hbz hQ1 hF1 hb1
        have hbase : Y.heap.size + 1 ≤ wz.heap.size := by omega
        have u2 : wz.cell? ⟨Y.heap.size, 2, none⟩ = some (.slice Ap np cp) := (hMz.bk.cell 2).trans rfl
        have u3 : wz.cell? ⟨Y.heap.size, 3, none⟩ = some (.slice Af nf cf) := (hMz.bk.cell 3).trans rfl
        have u4 := hMz.bk.frozen 2
        have u5 := hMz.bk.frozen 3
        go_upto_region 14 with fail
        go_cut [14] (fun _ wv => ∃ (wy : World) (A2 A3 : Option Addr) (c2 c3 : Nat), wy = wv ∧ FaceM wy (Y.heap.size + 1) Y.heap.size { f with places := f.places ++ Qp, fingers := f.fingers ++ Fp } Ad A2 A3 nd cd (np + n1) c2 (nf + m1) c3 ∧ Below Y.heap.size wz wy)
        case first =>
          go_region_law (first
            | ((refine stepQ (base := Y.heap.size + 1) (base2 := wr.heap.size) (A := Ap) (n := np) (c := cp) (Q := f.places) (B := A1) (m := n1) (d := c1) (M := Qp) rfl (.tmp 74) (.tmp 75) (by rfl) (by rfl) (by rfl) (hMz.places.next (Below.refl _ _).drew) (hQz.next (Below.refl _ _).drew) (np + n1) rfl (by omega) hbase ?_)
               intro A2 c2 w2 hQ2 hg2 hl2
               have kg2 : wz.grownBy w2 (blk Ap) := ⟨hg2.os, hg2.tape, hg2.output, hg2.size, hg2.block⟩
               have kb2 : Below (Y.heap.size + 1) wz w2 := (Below.refl _ _).grown kg2 hbase (fun k hk => (hMz.places.row.lt k hk).1)
               have v2 := (hMz.bk.below kb2 (Nat.lt_succ_self _)).cell 2
               have v3 : w2.cell? ⟨Y.heap.size, 3, none⟩ = some (.slice Af nf cf) := ((hMz.bk.below kb2 (Nat.lt_succ_self _)).cell 3).trans rfl
               have kF2 := hMz.fingers.kept kg2 (ne_row fun q hq e => hMz.pf q e hq)
               have kB2 := hFz.kept kg2 (ne_row fun q hq e => by have := (hFz.lt q hq).1; have := HAPL.out q e; omega)
               have kz2 := kg2.size)
            | ((refine stepS2 (base := Y.heap.size + 1) (A := Af) (n := nf) (c := cf) (L := f.fingers) (B := B1) (m := m1) (d := d1) (M := Fp) rfl (.tmp 78) (.tmp 79) (by rfl) (by rfl) (by rfl) (by rfl) (by repeat (first | with_reducible exact kF2 | with_reducible apply Own.drew)) (by repeat (first | with_reducible exact kB2.ints | with_reducible apply Ints.drewD)) (nf + m1) rfl (by omega) (Nat.le_trans hbase kz2) ?_)
               intro A3 c3 w3 hF3 hb3 hg3 hl3
               have kg3 : w2.grownBy w3 (blk Af) := ⟨hg3.os, hg3.tape, hg3.output, hg3.size, hg3.block⟩
               have kO := both_pf hMz hbase hQ2 kg2 (fun k hk => hl2 k hk) hF3 kg3 (fun k hk => by
                 rcases hl3 with e | e
                 · exact .inl (by rw [← e]; exact hk)
                 · rw [hk] at e
                   injection e with e
                   exact .inr (Nat.le_of_eq e.symm))
               have kBk := hMz.bk.below kO.below (Nat.lt_succ_self _)
               have y2 : w3.cell? ⟨Y.heap.size, 2, none⟩ = some (.slice Ap np cp) := (kBk.cell 2).trans rfl
               have y3 : w3.cell? ⟨Y.heap.size, 3, none⟩ = some (.slice Af nf cf) := (kBk.cell 3).trans rfl
               have y4 := kBk.frozen 2
               have y5 := kBk.frozen 3))
          all_goals
            have g1 := only_setCell (only_setCell (World.grownBy.refl w3 (some Y.heap.size)) (p := ⟨Y.heap.size, 2, none⟩) (.inl rfl) (.slice A2 (np + n1) c2)) (p := ⟨Y.heap.size, 3, none⟩) (.inl rfl) (.slice A3 (nf + m1) c3)
            have kM : FaceM ((w3.setCell ⟨Y.heap.size, 2, none⟩ (.slice A2 (np + n1) c2)).setCell ⟨Y.heap.size, 3, none⟩ (.slice A3 (nf + m1) c3)) (Y.heap.size + 1) Y.heap.size { f with places := f.places ++ Qp, fingers := f.fingers ++ Fp } Ad A2 A3 nd cd (np + n1) c2 (nf + m1) c3 :=
              ⟨(kBk.set_ 2 _).set_ 3 _, kO.darts.kept g1 (ne_some fun q hq => by have := (kO.darts.lt q hq).1; omega), kO.places.kept g1 (ne_some fun q hq => by have := (kO.places.row.lt q hq).1; omega), kO.fingers.kept g1 (ne_some fun q hq => by have := (kO.fingers.lt q hq).1; omega), kO.dp, kO.df, kO.pf⟩
            have kB := ((kO.below.mono (Nat.le_succ _)).setCell (p := ⟨Y.heap.size, 2, none⟩) (Nat.le_refl _) (.slice A2 (np + n1) c2)).setCell (p := ⟨Y.heap.size, 3, none⟩) (Nat.le_refl _) (.slice A3 (nf + m1) c3)
            go_wp2_with fail
            go_meet
            case rel => exact ⟨_, A2, A3, c2, c3, rfl, kM, kB⟩
        case rest =>
          obtain ⟨wy, A2, A3, c2', c3', rfl, hMy, hby⟩ := hcut
          have hou := HOU.out
          have hsy := hsz.below hby (by omega)
          have hRy := hRz.below hby (by omega)
          have hgy := only_below hgz hby (by omega)
          have hv1 : ∀ o : Bool, FaceM (wy.setCell ⟨Y.heap.size, 4, none⟩ (.bool o)) (Y.heap.size + 1) Y.heap.size { f with places := f.places ++ Qp, fingers := f.fingers ++ Fp, outer := o } Ad A2 A3 nd cd (np + n1) c2' (nf + m1) c3' := fun o => by
            have g1 := only_setCell (World.grownBy.refl wy (some Y.heap.size)) (p := ⟨Y.heap.size, 4, none⟩) (.inl rfl) (.bool o)
            exact ⟨hMy.bk.set_ 4 _, hMy.darts.kept g1 (ne_some fun q hq => by have := (hMy.darts.lt q hq).1; omega), hMy.places.kept g1 (ne_some fun q hq => by have := (hMy.places.row.lt q hq).1; omega), hMy.fingers.kept g1 (ne_some fun q hq => by have := (hMy.fingers.lt q hq).1; omega), hMy.dp, hMy.df, hMy.pf⟩
          have hMv := hv1 ou
          have hsv := hsy.far (p := ⟨Y.heap.size, 4, none⟩) (by simp; omega) (.bool ou)
          have hRv := hRy.far (p := ⟨Y.heap.size, 4, none⟩) (by simp; omega) (.bool ou)
          have hgv := only_setCell hgy (p := ⟨Y.heap.size, 4, none⟩) (.inr (by simp; omega)) (.bool ou)
          have v4 : wy.cell? ⟨Y.heap.size, 4, none⟩ = some (.bool f.outer) := (hMy.bk.cell 4).trans rfl
          have v5 := hMy.bk.frozen 4
          clear u2 u3 u4 u5 hMz hsz hRz hgz hQz hFz hby hv1 hMy hsy hRy hgy
          cases ho : f.outer with
          | true =>
            rw [ho] at v4 hou
            have hot : ou = true := by rw [hou]; rfl
            have HO := Lib.hid ho
            clear ho hou HOU
            subst hot
            go_wp2_with fail
            refine (dia_left x base p k A n c L b g2 g3 g4 g6 s P C ids _ (hDR.out _ hgv) (by rw [HDN.out]; exact hx)).mono ?_
            rintro e w5 ⟨rfl, hb5⟩
            have hM5 := hMv.next hb5
            have hs5 := hsv.below hb5 hsv.lt
            have hR5 := hRv.below hb5 hRv.lt
            have hg5 := only_below hgv hb5 hgv.size
            have hu5 := hs5.unW
            clear hMv hsv hRv hgv hb5 v4 v5
            generalize leftF L (axL L) x = x' at hx' hxlt HE1 ⊢
            have HST := Lib.hid (stepsN_lt (u := unN si) hxlt)
            have HST2 := Lib.hid (stepsN_ge (u := unN si) hlt)
            go_wp2_with fail
            go_roundw
            case rel => exact ⟨x', k', si, _, Ad, A2, A3, nd, cd, np + n1, c2', nf + m1, c3', hx', rfl, hs5, hM5, hg5, hR5, hnd, by rw [HST.out]; omega, by rw [HST.out]; omega, by rw [HST.out]; omega, HE1⟩
            case measure =>
              have e1 := HST.out
              have e2 := HST2.out
              unfold msF
              rw [hu5, hu1]
              simp [intOf]
              omega
          | false =>
            rw [ho] at v4 hou
            have q8 : ((j : Int) == (m : Int) - 1) = ou := by
              rw [hou, Bool.false_or, Bool.eq_iff_iff]
              simp
              omega
            have HO := Lib.hid ho
            clear ho hou HOU
            go_wp2_with fail
            refine (dia_left x base p k A n c L b g2 g3 g4 g6 s P C ids _ (hDR.out _ hgv) (by rw [HDN.out]; exact hx)).mono ?_
            rintro e w5 ⟨rfl, hb5⟩
            have hM5 := hMv.next hb5
            have hs5 := hsv.below hb5 hsv.lt
            have hR5 := hRv.below hb5 hRv.lt
            have hg5 := only_below hgv hb5 hgv.size
            have hu5 := hs5.unW
            clear hMv hsv hRv hgv hb5 v4 v5
            generalize leftF L (axL L) x = x' at hx' hxlt HE1 ⊢
            have HST := Lib.hid (stepsN_lt (u := unN si) hxlt)
            have HST2 := Lib.hid (stepsN_ge (u := unN si) hlt)
            go_wp2_with fail
            go_roundw
            case rel => exact ⟨x', k', si, _, Ad, A2, A3, nd, cd, np + n1, c2', nf + m1, c3', hx', rfl, hs5, hM5, hg5, hR5, hnd, by rw [HST.out]; omega, by rw [HST.out]; omega, by rw [HST.out]; omega, HE1⟩
            case measure =>
              have e1 := HST.out
              have e2 := HST2.out
              unfold msF
              rw [hu5, hu1]
              simp [intOf]
              omega
end

section
open Go.RowKit
/-- A face as a value. -/
structure FV where
  above : Bool
  dA : Option Addr
  dn : Nat
  dc : Nat
  pA : Option Addr
  pn : Nat
  pc : Nat
  fA : Option Addr
  fn : Nat
  fc : Nat
  outer : Bool
def fvC (v : FV) : List Value := [.bool v.above, .slice v.dA v.dn v.dc, .slice v.pA v.pn v.pc, .slice v.fA v.fn v.fc, .bool v.outer]
theorem fvC_len (v : FV) : (fvC v).length = 5 := rfl
structure FcOk (w : World) (base : Nat) (A : Option Addr) (v : FV) (F : Fc) : Prop where
  above : v.above = F.above
  outer : v.outer = F.outer
  darts : Own w base v.dA v.dn v.dc F.darts
  places : OwnQ w base v.pA v.pn v.pc F.places
  fingers : Own w base v.fA v.fn v.fc F.fingers
  ad : Apart v.dA A
  ap : Apart v.pA A
  af : Apart v.fA A
/-- A slice of faces, all of the call's own. -/
structure Fcs (w : World) (base : Nat) (A : Option Addr) (n c : Nat) (vs : List FV) (Fs : List Fc) : Prop where
  row : Row w base 5 A n c (vs.flatMap fvC)
  len : Fs.length = n
  each : ∀ (j : Nat) (v : FV) (F : Fc), vs[j]? = some v → Fs[j]? = some F → FcOk w base A v F
section
variable {w w' : World} {base : Nat} {A : Option Addr} {n c : Nat} {vs : List FV} {Fs : List Fc} {v : FV} {F : Fc}
theorem FcOk.below (h : FcOk w base A v F) (hb : Below w.heap.size w w') : FcOk w' base A v F := ⟨h.above, h.outer, h.darts.below hb, h.places.next hb, h.fingers.below hb, h.ad, h.ap, h.af⟩
theorem FcOk.kept {g : Nat} (h : FcOk w base A v F) (hg : w.grownBy w' (some g)) (hlt : g < base) : FcOk w' base A v F :=
  ⟨h.above, h.outer, h.darts.kept hg (ne_some fun q hq => by have := (h.darts.lt q hq).1; omega), h.places.kept hg (ne_some fun q hq => by have := (h.places.row.lt q hq).1; omega), h.fingers.kept hg (ne_some fun q hq => by have := (h.fingers.lt q hq).1; omega), h.ad, h.ap, h.af⟩
theorem FcOk.push {A' : Option Addr} (h : FcOk w base A v F) (hg : w.grownBy w' (blk A)) (hA : ∀ k, blk A' = some k → blk A = some k ∨ w.heap.size ≤ k) : FcOk w' base A' v F :=
  ⟨h.above, h.outer, h.darts.kept hg (ne_row h.ad), h.places.kept hg (ne_row h.ap), h.fingers.kept hg (ne_row h.af),
   fun q hq e => by
    rcases hA q e with h1 | h1
    · exact h.ad q hq h1
    · have := (h.darts.lt q hq).2; omega,
   fun q hq e => by
    rcases hA q e with h1 | h1
    · exact h.ap q hq h1
    · have := (h.places.row.lt q hq).2; omega,
   fun q hq e => by
    rcases hA q e with h1 | h1
    · exact h.af q hq h1
    · have := (h.fingers.lt q hq).2; omega⟩
theorem Fcs.vlen (h : Fcs w base A n c vs Fs) : vs.length = n := by
  have := h.row.len
  rw [flat_len fvC 5 fvC_len] at this
  omega
theorem Fcs.nil (w : World) (base : Nat) : Fcs w base none 0 0 [] [] := ⟨Row.none_ _ _ _, rfl, fun j v F h => by simp at h⟩
theorem Fcs.below (h : Fcs w base A n c vs Fs) (hb : Below w.heap.size w w') : Fcs w' base A n c vs Fs := ⟨h.row.below hb, h.len, fun j v F h1 h2 => (h.each j v F h1 h2).below hb⟩
theorem Fcs.mono {base' : Nat} (h : Fcs w base A n c vs Fs) (hb : base' ≤ base) : Fcs w base' A n c vs Fs :=
  ⟨h.row.mono hb, h.len, fun j v F h1 h2 => by
    have e := h.each j v F h1 h2
    exact ⟨e.above, e.outer, Own.mono e.darts hb, e.places.mono hb, Own.mono e.fingers hb, e.ad, e.ap, e.af⟩⟩
theorem Fcs.kept {g : Nat} (h : Fcs w base A n c vs Fs) (hg : w.grownBy w' (some g)) (hlt : g < base) : Fcs w' base A n c vs Fs :=
  ⟨h.row.kept hg (ne_some fun q hq => by have := (h.row.lt q hq).1; omega), h.len, fun j v F h1 h2 => (h.each j v F h1 h2).kept hg hlt⟩
/-- One face more. -/
theorem Fcs.push {A' : Option Addr} {n' c' : Nat} (h : Fcs w base A n c vs Fs) (hr : Row w' base 5 A' n' c' ((vs ++ [v]).flatMap fvC)) (hn : n + 1 = n') (hg : w.grownBy w' (blk A)) (hA : ∀ k, blk A' = some k → blk A = some k ∨ w.heap.size ≤ k)
    (hv : FcOk w base A v F) : Fcs w' base A' n' c' (vs ++ [v]) (Fs ++ [F]) := by
  refine ⟨hr, by simp [h.len, hn], fun j x X hx hX => ?_⟩
  by_cases hj : j < n
  · rw [List.getElem?_append_left (by rw [h.vlen]; exact hj)] at hx
    rw [List.getElem?_append_left (by rw [h.len]; exact hj)] at hX
    exact (h.each j x X hx hX).push hg hA
  · rw [List.getElem?_append_right (by rw [h.vlen]; omega), h.vlen] at hx
    rw [List.getElem?_append_right (by rw [h.len]; omega), h.len] at hX
    have e1 : j - n = 0 := by
      rcases Nat.eq_zero_or_pos (j - n) with h0 | h0
      · exact h0
      · rw [List.getElem?_eq_none (by simp; omega)] at hx; cases hx
    rw [e1] at hx hX
    simp at hx hX
    subst hx; subst hX
    exact hv.push hg hA
end
theorem fcInfo : (Tryd.prog.info? 38).map (fun i => (i.zero, i.size, i.bytes)) = some (some (.agg #[.bool false, .slice none 0 0, .slice none 0 0, .slice none 0 0, .bool false]), 5, 88) := by kernel_rfl
theorem buildF1 (v0 v4 : Bool) (A1 A2 A3 : Option Addr) (n1 c1 n2 c2 n3 c3 : Nat) (w : World) : (Instr.buildSlice 29 1 #[(0, .agg #[.bool v0, .slice A1 n1 c1, .slice A2 n2 c2, .slice A3 n3 c3, .bool v4])]).run Tryd.prog w = .ok (.slice (some ⟨w.heap.size, 0, none⟩) 1 1) (w.alloc (.cells #[.bool v0, .slice A1 n1 c1, .slice A2 n2 c2, .slice A3 n3 c3, .bool v4] 38)) := by
  obtain ⟨i0, hi, hz0, hz1, hz2⟩ := info_parts fcInfo
  refine run_buildSlice w _ _ 1 _ _ i0 _ Tryd.underlying29 hi hz0 (by rw [hz1]; omega) (by rw [hz1]; omega) ?_
  rw [hz1]
  kernel_rfl
/-- 'append(out, face)'. -/
theorem pushF {w : World} {ops : Array Oper} {rest : List Oper} {o : Oper} {a : Act} {Q' : Exit → Act → World → Prop} (hgd : o.guard = none) (s x : Operand)
    (ho : o.op = .call { callee := .builtin .append, args := #[s, x], argTypes := #[29, 29] })
    {base : Nat} {A : Option Addr} {n c : Nat} {vs : List FV} {Fs : List Fc} (hst : Fcs w base A n c vs Fs) (v : FV) (hs : a.eval s = .slice A n c)
    (H : Nat) (hH : w.heap.size = H) (hx : a.eval x = .slice (some ⟨H, 0, none⟩) 1 1) (N : Nat) (hN : n + 1 = N) (hn : N ≤ 1000000) (hbase : base ≤ w.heap.size)
    (h : ∀ A' c' w', Row w' base 5 A' N c' ((vs ++ [v]).flatMap fvC) → w.grownBy w' (blk A) → (∀ k, blk A' = some k → blk A = some k ∨ w.heap.size ≤ k) → wpList Tryd.prog ops Q' rest (a.put o.dst (.slice A' N c')) w') :
    wpList Tryd.prog ops Q' (o :: rest) a (w.alloc (.cells #[.bool v.above, .slice v.dA v.dn v.dc, .slice v.pA v.pn v.pc, .slice v.fA v.fn v.fc, .bool v.outer] 38)) := by
  subst hH
  obtain ⟨i0, hi, hz0, hz1, hz2⟩ := info_parts fcInfo
  refine appR hgd s x 29 ho 38 i0 _ 5 88 Tryd.underlying29 hi hz0 hz1 hz2 rfl (by decide) (hst.row.alloc _) (Src.new (m := 1) (cs := fvC v) rfl)
    (by intro u hu; simp [fvC] at hu; rcases hu with rfl | rfl | rfl | rfl | rfl <;> rfl) hs hx N hN (by unfold maxLen; omega) (by omega) (by simp; omega) ?_
  intro A' c' w' h1 h2 h3 _
  refine h A' c' w' (by rw [List.flatMap_append]; simpa using h1) (only_trans (World.grownBy_alloc w _ _) h2) (fun k hk => ?_)
  rcases h3 k hk with h | h
  · exact .inl h
  · right; simp at h; omega
theorem fF_yes {f : Nat → Nat} {b d k : Nat} {s : List Bool} (h : sat s d = true) : facesF f b (List.range' d (k + 1)) s = facesF f b (List.range' (d + 1) k) s := by
  rw [List.range'_succ]; conv => lhs; unfold facesF
  rw [if_pos h]
theorem fF_no {f : Nat → Nat} {b d k : Nat} {s : List Bool} (h : sat s d = false) : facesF f b (List.range' d (k + 1)) s = (face1 f b (2 * s.length + 2) s d).1 :: facesF f b (List.range' (d + 1) k) (face1 f b (2 * s.length + 2) s d).2 := by
  rw [List.range'_succ]; conv => lhs; unfold facesF
  rw [if_neg (by rw [h]; simp)]
set_option maxHeartbeats 800000 in
theorem dia_below0 (p : Nat) (K : Int) (A : Option Addr) (c : Nat) (v2 v3 v4 v5 v6 : Value) (w : World) (hd : Dia w p K A 0 c v2 v3 v4 v5 v6) :
    Calls Tryd.prog 81 #[.pointer (some ⟨p, 0, none⟩)] w fun e w' => ∃ g, e = .returned (.slice (some ⟨g, 0, none⟩) 0 0) ∧ Below w.heap.size w w' := by
  have c1 := hd.c1
  go_enter Tryd.func81, Tryd.ntmps81
  go_wp2_with (at_make; refine makeBW rfl _ _ rfl 0 _ rfl rfl rfl (by omega) (Nat.le_refl _) ?_; intro ws hs0 hbs0 hzs; have e1 := (hd.next hbs0).c1)
  go_loopw [4, 5, 6, 20] (fun _ _ _ v20 wr => v20 = .int .i64 0 ∧ Below w.heap.size w wr) (fun _ _ _ v20 _ => 0)
  case atStart => exact ⟨rfl, hbs0⟩
  case round =>
    obtain ⟨rfl, hbw⟩ := hrel
    clear hbs0 e1 c1 hs0
    go_wp2_with fail
    go_ret
    exact ⟨_, rfl, hbw⟩
def FacesPost (w : World) (K : Int) (L : List Lt) (e : Ending) (w' : World) : Prop :=
  ∃ (A' : Option Addr) (n' c' : Nat) (vs : List FV), e = .returned (.tuple #[.slice A' n' c', .int .i64 (checkE K L)]) ∧ Below w.heap.size w w' ∧ (checkE K L = 0 → Fcs w' w.heap.size A' n' c' vs (facesL K L)) ∧ (checkE K L ≠ 0 → n' = 0)
theorem facesL_nil (K : Int) : facesL K [] = [] := rfl
set_option maxRecDepth 100000 in
set_option maxHeartbeats 6400000 in
theorem code_Faces (K : Int) (A : Option Addr) (n c : Nat) (L : List Lt) (w : World) (hA : Lets w A n L) :
    Calls Tryd.prog 23 #[.agg #[.int .i64 K, .slice A n c]] w (FacesPost w K L) := by
  have hbx := Boxed.refl w K A n c
  have x0 := hbx.c0
  have x1 := hbx.c1
  have hbf := buildF1
  obtain ⟨E, hE⟩ : ∃ E, checkE K L = E := ⟨_, rfl⟩
  have HE := Lib.hid hE
  have hLn := Lib.hid hA.len
  clear hE
  by_cases hz : E = 0
  · subst hz
    go_enter Tryd.func23, Tryd.ntmps23
    go_wp2_with fail
    refine (code_read K A n c L _ (hA.below hbx.below)).mono ?_
    rintro e w1 ⟨v, rfl, hb1, hok⟩
    obtain ⟨p, rfl, k, rfl, hk40, hn400, hp, hcase⟩ := hok HE.out
    have hb2 := hbx.more hb1
    rw [HE.out]
    clear x0 x1 hbx hb1 hok
    rcases hcase with ⟨rfl, hd⟩ | ⟨hn0, base, b, g2, g3, g4, g6, s, P, C, ids, hbase, hF⟩
    · have d1 := hd.c1
      go_wp2_with (at_make; refine makeBW rfl _ _ rfl 0 _ rfl rfl rfl (by omega) (Nat.le_refl _) ?_; intro ws hs0 hbs0 hzs)
      refine (dia_below0 p (k : Int) A c _ _ _ _ _ ws (hd.next hbs0)).mono ?_
      rintro e w2 ⟨gB, rfl, hb3⟩
      have hb4 := below_chain hb2.below (below_chain hbs0 hb3 hbs0.size) (by have := hb2.size; omega)
      clear d1 hd hs0 hbs0 hzs hb3 hb2
      have HB4 := Lib.hid hb4
      clear hb4
      go_wp2_with fail
      go_loopw [6, 9, 30] (fun v6 _ v30 wr => v6 = .slice none 0 0 ∧ v30 = .int .i64 0 ∧ Below w.heap.size w wr) (fun _ _ _ _ => 0)
      case atStart => exact ⟨rfl, rfl, HB4.out⟩
      case round =>
        obtain ⟨rfl, rfl, hbw⟩ := hrel
        go_wp2_with fail
        go_ret2
        refine ⟨none, 0, 0, [], by rw [HE.out]; rfl, hbw, fun _ => ?_, fun h => absurd HE.out h⟩
        have : L = [] := List.eq_nil_of_length_eq_zero hLn.out
        subst this
        exact Fcs.nil _ _
    · have d1 := hF.ranks.dia.c1
      have hnle : 2 * n ≤ 17592186044416 := by omega
      have hsz2 := hb2.size
      have hst : Hid ([] ++ (facesF (leftF L (axL L)) (2 * n) (List.range' 0 (2 * n - 0)) (List.replicate (2 * n) false)).map (faceOf (k : Int) L (axL L)) = facesL (k : Int) L) := by
        show _ = _
        have hw := hF.good.walks
        rw [hLn.out] at hw
        unfold facesL
        rw [List.nil_append, Nat.sub_zero, ← List.range_eq_range', hw]
      go_wp2_with (at_make; refine makeBW rfl _ _ rfl (2 * n) _ rfl rfl (by omega) hnle (Nat.le_refl _) ?_; intro ws hs0 hbs0 hzs)
      refine (dia_below base p k A n c L b g2 g3 g4 g6 s P C ids ws (hF.next hbs0)).mono ?_
      rintro e w2 ⟨gB, bl, rfl, hB, hbl, hb3⟩
      have hs2 := hs0.below hb3 hs0.lt
      have hbw2 : Below w1.heap.size w1 w2 := below_chain hbs0 hb3 hbs0.size
      have hgB : w1.heap.size + 1 ≤ gB := by have := hB.base; omega
      have hgS : w1.heap.size < w2.heap.size := hs2.lt
      have hbW2 : Below w.heap.size w w2 := below_chain hb2.below hbw2 (by omega)
      have HBL := Lib.hid hbl
      have HF := Lib.hid hF
      clear d1 hF hs0 hbs0 hzs hb3 hb2 hbl
      go_wp2_with fail
      go_loopw [6, 9, 30] (fun v6 _ v30 wr => ∃ (d q : Nat) (s' : List Bool) (A2 : Option Addr) (c2 : Nat) (vs : List FV) (Fs : List Fc), d ≤ 2 * n ∧ q ≤ d ∧ v30 = .int .i64 d ∧ v6 = .slice A2 q c2 ∧ Fcs wr w2.heap.size A2 q c2 vs Fs ∧ OwnB wr w1.heap.size w1.heap.size (2 * n) s' ∧ w2.grownBy wr (some w1.heap.size) ∧
        Hid (Fs ++ (facesF (leftF L (axL L)) (2 * n) (List.range' d (2 * n - d)) s').map (faceOf (k : Int) L (axL L)) = facesL (k : Int) L)) (fun _ _ v30 _ => 2 * n - (intOf v30).toNat)
      case atStart => exact ⟨0, 0, List.replicate (2 * n) false, none, 0, [], [], Nat.zero_le _, Nat.le_refl _, rfl, rfl, Fcs.nil _ _, hs2, World.grownBy.refl _ _, hst⟩
      case round =>
        obtain ⟨d, q, s', A2, c2, vs, Fs, hd, hqd, rfl, rfl, hfc, hs, hg, HW⟩ := hrel
        clear hs2 hst
        have hszr := hg.size
        by_cases hlt : d < 2 * n
        · have hcs := hs.cell hlt
          have i0 : (0 : Int) ≤ (d : Int) := by omega
          have i1 : (d : Int) < 2 * (n : Int) := by omega
          cases hsd : sat s' d with
          | true =>
            rw [hsd] at hcs
            have HW' := Lib.hid (show Fs ++ (facesF (leftF L (axL L)) (2 * n) (List.range' (d + 1) (2 * n - (d + 1))) s').map (faceOf (k : Int) L (axL L)) = facesL (k : Int) L by
              rw [← HW.out, show 2 * n - d = 2 * n - (d + 1) + 1 by omega, fF_yes hsd])
            clear hsd HW
            go_wp2_with fail
            go_roundw
            case rel => exact ⟨d + 1, q, s', A2, c2, vs, Fs, by omega, by omega, by go_num, rfl, hfc, hs, hg, HW'⟩
            case measure => simp [intOf]; omega
          | false =>
            rw [hsd] at hcs
            have HSD := Lib.hid hsd
            have HW' := Lib.hid (show (Fs ++ [faceOf (k : Int) L (axL L) (face1L L n s' d).1]) ++ (facesF (leftF L (axL L)) (2 * n) (List.range' (d + 1) (2 * n - (d + 1))) (face1L L n s' d).2).map (faceOf (k : Int) L (axL L)) = facesL (k : Int) L by
              rw [← HW.out, show 2 * n - d = 2 * n - (d + 1) + 1 by omega, fF_no hsd, hs.len]
              unfold face1L
              simp)
            have hbr := hbw2.trans (below_of_only hg (Nat.le_refl _) (by omega))
            have hBr := hB.kept hg (by simp; omega)
            clear hsd HW
            go_wp2_with fail
            refine (dia_face d base p k A n c L b g2 g3 g4 g6 s P C ids w1 _ HF.out hbr hk40 w1.heap.size gB _ _ s' bl hs hBr HBL.out (Nat.le_refl _) hlt HSD.out).mono ?_
            rintro e w3 ⟨Ad, Ap, Af, nd, cd, np, cp, nf, cf, rfl, hs3, hD3, hP3, hF3, hg3⟩
            generalize hfv : faceOf (k : Int) L (axL L) (face1L L n s' d).1 = f at hD3 hP3 hF3 HW' ⊢
            generalize hsv : (face1L L n s' d).2 = s3 at hs3 HW'
            have hfc3 := hfc.kept hg3 hgS
            have hv : FcOk w3 w2.heap.size A2 ⟨f.above, Ad, nd, cd, Ap, np, cp, Af, nf, cf, f.outer⟩ f :=
              ⟨rfl, rfl, Own.mono hD3 hszr, hP3.mono hszr, Own.mono hF3 hszr, fun q hq e => by have := (hfc.row.lt q e).2; have := (hD3.lt q hq).1; omega, fun q hq e => by have := (hfc.row.lt q e).2; have := (hP3.row.lt q hq).1; omega, fun q hq e => by have := (hfc.row.lt q e).2; have := (hF3.lt q hq).1; omega⟩
            have hsz3 := hg3.size
            have hg23 := only_trans hg hg3
            clear hfv hsv hfc hs hg hg3 hD3 hP3 hF3 hbr hBr hcs
            go_wp2_with (at_builtin; refine pushF rfl _ _ rfl hfc3 ⟨f.above, Ad, nd, cd, Ap, np, cp, Af, nf, cf, f.outer⟩ rfl w3.heap.size rfl rfl (q + 1) rfl (by omega) (by omega) ?_; intro A4 c4 w4 hr4 hg4 hl4)
            have hfc4 := hfc3.push hr4 rfl hg4 hl4 hv
            have hs4 := hs3.kept hg4 (fun e => by have := (hfc3.row.lt _ e.symm).1; omega)
            have hg24 := only_below hg23 (hfc3.row.belowOf hg4 (by omega)) (Nat.le_refl _)
            clear hfc3 hr4 hg4 hl4 hv hs3 hg23
            go_wp2_with fail
            go_roundw
            case rel => exact ⟨d + 1, q + 1, s3, A4, c4, _, _, by omega, by omega, by go_num, rfl, hfc4, hs4, hg24, HW'⟩
            case measure => simp [intOf]; omega
        · have hdn : d = 2 * n := by omega
          have hFs : Fs = facesL (k : Int) L := by
            have := HW.out
            rw [hdn, Nat.sub_self] at this
            simpa [facesF] using this
          have i1 : ¬ (d : Int) < 2 * (n : Int) := by omega
          rw [hFs] at hfc
          have HFS := Lib.hid hFs
          have HDN := Lib.hid hdn
          clear hFs hdn HW
          go_wp2_with fail
          go_ret2
          exact ⟨A2, q, c2, vs, by rw [HE.out]; rfl, hbW2.trans (below_of_only hg (by omega) (by omega)), fun _ => hfc.mono (by omega), fun h => absurd HE.out h⟩
  · have q : (E == 0) = false := by simpa using hz
    go_enter Tryd.func23, Tryd.ntmps23
    go_wp2_with fail
    refine (code_read K A n c L _ (hA.below hbx.below)).mono ?_
    rintro e w1 ⟨v, rfl, hb1, _⟩
    have hb2 := hbx.more hb1
    rw [HE.out]
    clear x0 x1 hbx hb1 hz
    go_wp2_with fail
    go_ret2
    exact ⟨none, 0, 0, [], by rw [HE.out]; rfl, hb2.below, fun h => by rw [HE.out] at h; simp [h] at q, fun _ => rfl⟩
end
end Go.Proofs.YtkjcmppaapbabaaDoor
