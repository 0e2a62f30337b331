/-
  Contract: the program's rim. Conditions: the diagram of a valid code.
-/
import Derived.Test.YtkjcmppaapbabaaDoorJF
import Derived.Deep.DeepCutAuto
namespace Go.Proofs.YtkjcmppaapbabaaDoor
open Go.RowKit
theorem below_allocG {B : Nat} {a b : World} {o : Obj} (hB : B ≤ b.heap.size) (h : Below B a b) : Below B a (b.alloc o) := h.alloc hB o
set_option maxRecDepth 100000 in
set_option maxHeartbeats 3200000 in
theorem dia_rim (j base p k : Nat) (A : Option Addr) (n c : Nat) (L : List Lt) (b g2 g3 g4 g6 : Nat) (s : List Bool) (P C ids : List Int) (w : World) (h : DiaF w base p k A n c L b g2 g3 g4 g6 s P C ids) (hk40 : k ≤ 40) (hj : j < (axL L).length) :
    Calls Tryd.prog 124 #[.pointer (some ⟨p, 0, none⟩), .int .i64 j] w (BetwPost w.heap.size w (pieceP (k : Int) L (axL L) j) (pieceF (k : Int) L (axL L) j)) := by
  have hn := h.small
  have g := h.good
  have hLn : L.length = n := h.lets.len
  have hml : (axL L).length ≤ n := by rw [axL_len, ← hLn]; exact pN_le L _
  have hD := h.ranks.dia
  have c0 := hD.c0
  have c1 := hD.c1
  have c3 := hD.c3
  have l0 := hD.lt
  have l3 := h.ranks.axis.lt
  obtain ⟨m, hm⟩ : ∃ m, m = (axL L).length := ⟨_, rfl⟩
  obtain ⟨t, ht⟩ : ∃ t, t = (j + 1) % m := ⟨_, rfl⟩
  have htm : t < m := by rw [ht]; exact Nat.mod_lt _ (by omega)
  have hx1 := ax_pass (L := L) (j := j) hj
  have hx2 := ax_pass (L := L) (j := t) (by rw [← hm]; exact htm)
  have cx := h.ranks.axis.cell (natI_at (k := j) hj)
  have cy := h.ranks.axis.cell (natI_at (k := t) (by rw [← hm]; exact htm))
  have hnx := fun hj1 : j + 1 < (axL L).length => g.next hj1
  have hhd := g.head_rank
  obtain ⟨v1, hv1⟩ : ∃ v1, v1 = xat (axL L) j := ⟨_, rfl⟩
  obtain ⟨v2, hv2⟩ : ∃ v2, v2 = xat (axL L) t := ⟨_, rfl⟩
  have hpP : Hid (pieceP (k : Int) L (axL L) j = if j + 1 < m then spanP (la L v1).gate (la L v1).rank (la L v2).gate else spanP (la L v1).gate (la L v1).rank k ++ spanP 0 0 (la L v2).gate) := by
    unfold Hid pieceP; rw [← hm, ← ht, ← hv1, ← hv2]
  have hpF : Hid (pieceF (k : Int) L (axL L) j = if j + 1 < m then upto (la L v1).gate (la L v2).gate else upto (la L v1).gate k ++ upto 0 (la L v2).gate) := by
    unfold Hid pieceF; rw [← hm, ← ht, ← hv1, ← hv2]
  rw [← hv1] at cx hx1
  rw [← hv2] at cy hx2
  rw [hLn] at hx1 hx2
  rw [← hm] at c3 hj hnx hml
  obtain ⟨gg, o, rfl, hgl, hl1, ho1⟩ := h.lets.at_ hx1.2
  obtain ⟨hl2, ho2⟩ := h.lets.also hx2.2
  obtain ⟨x0, x1, x2, x3, x4, x5⟩ := hl1
  obtain ⟨y0, y1, y2, y3, y4, y5⟩ := hl2
  have ga := g.gates _ (by rw [hLn]; exact hx1.2) hx1.1
  have gb := g.gates _ (by rw [hLn]; exact hx2.2) hx2.1
  have ra := g.rank hx1.1
  have rb := g.rank hx2.1
  have ra' := gN_lt L (la L v1).gate L.length
  have rb' := gN_lt L (la L v2).gate L.length
  rw [hLn] at ra rb ra' rb'
  have hsp : (j + 1 < m ∧ (((la L v1).gate < (la L v2).gate ∧ (la L v2).rank - 1 = 0) ∨ ((la L v1).gate = (la L v2).gate ∧ (la L v2).rank - 1 = (la L v1).rank))) ∨ (j + 1 = m ∧ (la L v2).rank = 1) := by
    by_cases hjm : j + 1 < m
    · left
      have := hnx hjm
      rw [← hv1] at this
      rw [show t = j + 1 by rw [ht]; exact Nat.mod_eq_of_lt hjm] at hv2
      rw [← hv2] at this
      exact ⟨hjm, this⟩
    · right
      have e : j + 1 = m := by omega
      rw [show t = 0 by rw [ht, e]; exact Nat.mod_self m] at hv2
      rw [← hv2] at hhd
      exact ⟨e, hhd⟩
  have q3 : ((j : Int) + 1) % (m : Int) = (t : Int) := by rw [ht]; simp
  have q11 : ((j : Int) + 1).tmod (m : Int) = (t : Int) := by rw [Int.tmod_eq_emod_of_nonneg (by omega)]; exact q3
  have q16 : IntKind.i64.wrap ((j : Int) + 1) = (j : Int) + 1 := IntWalk.i64_in _ (by omega)
  have q17 : IntKind.i64.wrap (t : Int) = (t : Int) := IntWalk.i64_in _ (by omega)
  have q18 : (0 : Int) ≤ (j : Int) + 1 := by omega
  have q19 : ¬ (m : Int) = 0 := by omega
  have q20 : ¬ m = 0 := by omega
  have q22 : (j + 1) % m = t := ht.symm
  have q4 : (0 : Int) ≤ (t : Int) := by omega
  have q5 : (t : Int) < (m : Int) := by omega
  have q7 : (0 : Int) ≤ (j : Int) := by omega
  have q8 : (j : Int) < (m : Int) := by omega
  have v10 : (0 : Int) ≤ (v1 : Int) := by omega
  have v11 : (v1 : Int) < (n : Int) := by omega
  have v20 : (0 : Int) ≤ (v2 : Int) := by omega
  have v21 : (v2 : Int) < (n : Int) := by omega
  have hbp1 := build_place1
  have hbp2 := build_place2
  have hbp0 := build_place0
  have HV1 := Lib.hid hv1
  have HV2 := Lib.hid hv2
  have HT := Lib.hid ht
  have HM := Lib.hid hm
  have HLn := Lib.hid hLn
  have hnk : (la L v1).gate ≤ 40 := by omega
  clear hv1 hv2 ht hm hLn hx1 hx2 hnx hhd hD
  go_enter Tryd.func124, Tryd.ntmps124
  go_upto_region 2 with fail
  have HS : ∀ wx, Below w.heap.size w wx → Below w.heap.size w wx ∧ wx.cell? ⟨p, 1, none⟩ = some (.slice (some ⟨gg, o, none⟩) n c) ∧ wx.cell? ⟨p, 3, none⟩ = some (.slice (some ⟨g3, 0, none⟩) m m) ∧ wx.cell? ⟨g3, j, none⟩ = some (.int .i64 v1) ∧ wx.cell? ⟨g3, t, none⟩ = some (.int .i64 v2) ∧
      wx.cell? ⟨gg, o + v1 * 6, none⟩ = some (.int .i64 (la L v1).kind) ∧ wx.cell? ⟨gg, o + v1 * 6 + 1, none⟩ = some (.int .i64 (la L v1).gate) ∧ wx.cell? ⟨gg, o + v1 * 6 + 2, none⟩ = some (.int .i64 (la L v1).rank) ∧ wx.cell? ⟨gg, o + v1 * 6 + 3, none⟩ = some (.int .i64 (la L v1).id) ∧ wx.cell? ⟨gg, o + v1 * 6 + 4, none⟩ = some (.int .i64 (la L v1).sign) ∧ wx.cell? ⟨gg, o + v1 * 6 + 5, none⟩ = some (.bool (la L v1).over) ∧
      wx.cell? ⟨gg, o + v2 * 6, none⟩ = some (.int .i64 (la L v2).kind) ∧ wx.cell? ⟨gg, o + v2 * 6 + 1, none⟩ = some (.int .i64 (la L v2).gate) ∧ wx.cell? ⟨gg, o + v2 * 6 + 2, none⟩ = some (.int .i64 (la L v2).rank) ∧ wx.cell? ⟨gg, o + v2 * 6 + 3, none⟩ = some (.int .i64 (la L v2).id) ∧ wx.cell? ⟨gg, o + v2 * 6 + 4, none⟩ = some (.int .i64 (la L v2).sign) ∧ wx.cell? ⟨gg, o + v2 * 6 + 5, none⟩ = some (.bool (la L v2).over) :=
    fun wx hb => ⟨hb, (hb.cell l0).trans c1, (hb.cell l0).trans c3, (hb.cell l3).trans cx, (hb.cell l3).trans cy, (hb.cell hgl).trans x0, (hb.cell hgl).trans x1, (hb.cell hgl).trans x2, (hb.cell hgl).trans x3, (hb.cell hgl).trans x4, (hb.cell hgl).trans x5, (hb.cell hgl).trans y0, (hb.cell hgl).trans y1, (hb.cell hgl).trans y2, (hb.cell hgl).trans y3, (hb.cell hgl).trans y4, (hb.cell hgl).trans y5⟩
  go_cut [7, 8] (fun va vb wz => ∃ (wx : World) (ba bb : Nat), wx = wz ∧ va = .pointer (some ⟨ba, 0, none⟩) ∧ vb = .pointer (some ⟨bb, 0, none⟩) ∧ Blk wx ba 46 (ltC (la L v1)).toArray ∧ Blk wx bb 46 (ltC (la L v2)).toArray ∧ Below w.heap.size w wx)
  case first =>
   go_region_held3 (fun wx => Below w.heap.size w wx ∧ wx.cell? ⟨p, 1, none⟩ = some (.slice (some ⟨gg, o, none⟩) n c) ∧ wx.cell? ⟨p, 3, none⟩ = some (.slice (some ⟨g3, 0, none⟩) m m) ∧ wx.cell? ⟨g3, j, none⟩ = some (.int .i64 v1) ∧ wx.cell? ⟨g3, t, none⟩ = some (.int .i64 v2) ∧
      wx.cell? ⟨gg, o + v1 * 6, none⟩ = some (.int .i64 (la L v1).kind) ∧ wx.cell? ⟨gg, o + v1 * 6 + 1, none⟩ = some (.int .i64 (la L v1).gate) ∧ wx.cell? ⟨gg, o + v1 * 6 + 2, none⟩ = some (.int .i64 (la L v1).rank) ∧ wx.cell? ⟨gg, o + v1 * 6 + 3, none⟩ = some (.int .i64 (la L v1).id) ∧ wx.cell? ⟨gg, o + v1 * 6 + 4, none⟩ = some (.int .i64 (la L v1).sign) ∧ wx.cell? ⟨gg, o + v1 * 6 + 5, none⟩ = some (.bool (la L v1).over) ∧
      wx.cell? ⟨gg, o + v2 * 6, none⟩ = some (.int .i64 (la L v2).kind) ∧ wx.cell? ⟨gg, o + v2 * 6 + 1, none⟩ = some (.int .i64 (la L v2).gate) ∧ wx.cell? ⟨gg, o + v2 * 6 + 2, none⟩ = some (.int .i64 (la L v2).rank) ∧ wx.cell? ⟨gg, o + v2 * 6 + 3, none⟩ = some (.int .i64 (la L v2).id) ∧ wx.cell? ⟨gg, o + v2 * 6 + 4, none⟩ = some (.int .i64 (la L v2).sign) ∧ wx.cell? ⟨gg, o + v2 * 6 + 5, none⟩ = some (.bool (la L v2).over))
    (first | (refine HS _ ?_; repeat (first | with_reducible exact Below.refl _ _ | with_reducible apply Below.drew | ((with_reducible refine below_allocG ?_ ?_); focus (first | (simp; done) | (simp; omega))))))
    (fail)
   all_goals
    go_wp2_with fail
    go_meet
   case rel => exact ⟨_, w.heap.size, w.heap.size + 1, rfl, rfl, rfl, (Blk.new w _ _).alloc _, heap_alloc2_new w _ _, (((Below.refl _ _).alloc (Nat.le_refl _) _).alloc (by simp) _).drew⟩
   case rel => exact ⟨_, w.heap.size + 1, w.heap.size, rfl, rfl, rfl, heap_alloc2_new w _ _, (Blk.new w _ _).alloc _, (((Below.refl _ _).alloc (Nat.le_refl _) _).alloc (by simp) _).drew⟩
  case rest =>
    obtain ⟨wx, ba, bb, rfl, rfl, rfl, hBA, hBB, hbx⟩ := hcut
    have z0 := (hbx.cell l0).trans c0
    have a1 : wx.cell? ⟨ba, 1, none⟩ = some (.int .i64 (la L v1).gate) := (hBA.cell 1).trans rfl
    have a2 : wx.cell? ⟨ba, 2, none⟩ = some (.int .i64 (la L v1).rank) := (hBA.cell 2).trans rfl
    have b1 : wx.cell? ⟨bb, 1, none⟩ = some (.int .i64 (la L v2).gate) := (hBB.cell 1).trans rfl
    have b2 : wx.cell? ⟨bb, 2, none⟩ = some (.int .i64 (la L v2).rank) := (hBB.cell 2).trans rfl
    have hzx := hbx.size
    have lp : p < wx.heap.size := by omega
    have lA := hBA.lt
    have lB := hBB.lt
    have HO1 := Lib.hid ho1
    have HO2 := Lib.hid ho2
    have hr1 := ho1.rank
    have hr2 : I64 ((la L v2).rank - 1) := ⟨by omega, by omega⟩
    have HR1 := Lib.hid hr1
    have HR2 := Lib.hid hr2
    clear HS c0 c1 c3 cx cy x0 x1 x2 x3 x4 x5 y0 y1 y2 y3 y4 y5 hBA hBB q3 q11 q16 q17 q22 ho1 ho2 hr1 hr2
    rcases hsp with ⟨hjm, hs⟩ | ⟨hjm, hs⟩
    · have q30 : (j : Int) < (m : Int) - 1 := by omega
      have hP := hpP.out
      have hF := hpF.out
      rw [if_pos hjm, ← betw_span hs] at hP
      rw [if_pos hjm] at hF
      have HP := Lib.hid hP
      have HF := Lib.hid hF
      clear hP hF hpP hpF hs
      go_wp2_with fail
      refine (code_between _ _ _ _ w.heap.size none none 0 0 0 0 [] [] _ (OwnQ.nil _ _) (Own.nil _ _) ga.1 (by omega) gb.1 (by omega) HR1.out HR2.out (by omega) (by omega) (fun k hk => by cases hk) (by simp; omega)).mono ?_
      rintro e w2 ⟨A', n', c', B', m', d', rfl, hQ2, hF2, hap2, hb2⟩
      have hb3 : Below w.heap.size w w2 := ((hbx.alloc hzx _).alloc (by simp; omega) _).trans hb2
      rw [List.nil_append, ← HP.out] at hQ2
      rw [List.nil_append, ← HF.out] at hF2
      go_wp2_with fail
      go_ret2
      exact ⟨A', n', c', B', m', d', rfl, hQ2, hF2, hap2, hb3⟩
    · have q30 : ¬ (j : Int) < (m : Int) - 1 := by omega
      have hP := hpP.out
      have hF := hpF.out
      rw [if_neg (by omega), show spanP 0 0 (la L v2).gate = betwP 0 0 (la L v2).gate ((la L v2).rank - 1) from (betw_span (by omega)).symm] at hP
      rw [if_neg (by omega)] at hF
      clear hpP hpF hs
      have hI0 : I64 (0 : Int) := ⟨by omega, by omega⟩
      have hI1 := HR1.out
      go_upto_region 8 with fail
      obtain ⟨X, hX⟩ : ∃ X, X = ((wx.alloc (.cells #[.int .i64 (la L v1).gate, .int .i64 (la L v1).rank] 50)).alloc (.cells #[.int .i64 (la L v2).gate, .int .i64 ((la L v2).rank - 1)] 50)).alloc (.cells #[.int .i64 (k : Int), .int .i64 0] 50) := ⟨_, rfl⟩
      rw [← hX]
      have h9 : Blk X wx.heap.size 50 #[.int .i64 (la L v1).gate, .int .i64 (la L v1).rank] := by rw [hX]; exact ((Blk.new wx _ _).alloc _).alloc _
      have h10 : Blk X (wx.heap.size + 1) 50 #[.int .i64 (la L v2).gate, .int .i64 ((la L v2).rank - 1)] := by
        rw [hX]
        have : Blk ((wx.alloc (.cells #[.int .i64 (la L v1).gate, .int .i64 (la L v1).rank] 50)).alloc (.cells #[.int .i64 (la L v2).gate, .int .i64 ((la L v2).rank - 1)] 50)) (wx.heap.size + 1) 50 #[.int .i64 (la L v2).gate, .int .i64 ((la L v2).rank - 1)] := heap_alloc2_new wx _ _
        exact this.alloc _
      have h11 : Blk X (wx.heap.size + 1 + 1) 50 #[.int .i64 (k : Int), .int .i64 0] := by
        rw [hX]
        have := Blk.new ((wx.alloc (.cells #[.int .i64 (la L v1).gate, .int .i64 (la L v1).rank] 50)).alloc (.cells #[.int .i64 (la L v2).gate, .int .i64 ((la L v2).rank - 1)] 50)) 50 #[.int .i64 (k : Int), .int .i64 0]
        rwa [show ((wx.alloc (.cells #[.int .i64 (la L v1).gate, .int .i64 (la L v1).rank] 50)).alloc (.cells #[.int .i64 (la L v2).gate, .int .i64 ((la L v2).rank - 1)] 50)).heap.size = wx.heap.size + 1 + 1 by simp] at this
      have hb0 : Below wx.heap.size wx X := by rw [hX]; exact (((Below.refl _ _).alloc (Nat.le_refl _) _).alloc (by simp) _).alloc (by simp; omega) _
      have xA := (hb0.cell lA).trans a1
      have xP := (hb0.cell lp).trans z0
      have hbX := below_chain hbx hb0 hzx
      clear hX hb0 z0 a1 a2 b1 b2
      by_cases hk : (la L v1).gate = (k : Int)
      · have q31 : ((la L v1).gate == (k : Int)) = true := by simpa using hk
        rw [show spanP (la L v1).gate (la L v1).rank (k : Int) = betwP (la L v1).gate (la L v1).rank (la L v1).gate (la L v1).rank by rw [← hk]; exact (betw_span (.inr ⟨rfl, rfl⟩)).symm] at hP
        rw [show upto (la L v1).gate (k : Int) = upto (la L v1).gate (la L v1).gate by rw [← hk]] at hF
        have HP := Lib.hid hP
        have HF := Lib.hid hF
        have HK := Lib.hid hk
        clear hP hF hk
        go_quiet (fail)
        generalize hY : X.drewN nq = Y
        have r9 : Blk Y wx.heap.size 50 #[.int .i64 (la L v1).gate, .int .i64 (la L v1).rank] := by rw [← hY]; exact h9.drewN _
        have r10 : Blk Y (wx.heap.size + 1) 50 #[.int .i64 (la L v2).gate, .int .i64 ((la L v2).rank - 1)] := by rw [← hY]; exact h10.drewN _
        have r11 : Blk Y (wx.heap.size + 1 + 1) 50 #[.int .i64 (k : Int), .int .i64 0] := by rw [← hY]; exact h11.drewN _
        have hbY : Below w.heap.size w Y := by rw [← hY]; exact below_drewN hbX _
        clear hY h9 h10 h11 hbX xA xP
        have s0 : Y.cell? ⟨wx.heap.size, 0, none⟩ = some (.int .i64 (la L v1).gate) := (r9.cell 0).trans rfl
        have s1 : Y.cell? ⟨wx.heap.size, 1, none⟩ = some (.int .i64 (la L v1).rank) := (r9.cell 1).trans rfl
        have s2 : Y.cell? ⟨wx.heap.size + 1 + 1, 0, none⟩ = some (.int .i64 (k : Int)) := (r11.cell 0).trans rfl
        have s3 : Y.cell? ⟨wx.heap.size + 1 + 1, 1, none⟩ = some (.int .i64 0) := (r11.cell 1).trans rfl
        have s4 := r11.frozen 0
        have s5 := r11.frozen 1
        have rZ := (r10.far (p := ⟨wx.heap.size + 1 + 1, 0, none⟩) (by simp) (.int .i64 (la L v1).gate)).far (p := ⟨wx.heap.size + 1 + 1, 1, none⟩) (by simp) (.int .i64 (la L v1).rank)
        have hbZ := (hbY.setCell (p := ⟨wx.heap.size + 1 + 1, 0, none⟩) (by simp; omega) (.int .i64 (la L v1).gate)).setCell (p := ⟨wx.heap.size + 1 + 1, 1, none⟩) (by simp; omega) (.int .i64 (la L v1).rank)
        clear r9 r10 r11
        go_wp2_with fail
        refine (code_between _ _ _ _ _ none none 0 0 0 0 [] [] _ (OwnQ.nil _ _) (Own.nil _ _) ga.1 (by omega) ga.1 (by omega) HR1.out HR1.out (by omega) (by omega) (fun k hk => by cases hk) (Nat.le_refl _)).mono ?_
        rintro e w2 ⟨A1, n1, c1', B1, m1, d1, rfl, hQ1, hF1, hap1, hb1⟩
        have hlq := hQ1.len
        have hlf := hF1.len
        simp only [List.nil_append] at hQ1 hF1
        rw [List.nil_append] at hlq hlf
        have hlq' : n1 ≤ 100 := by rw [← hlq, betw_span (by omega)]; simp [spanP, flatPl, upto_len] <;> omega
        have hlf' : m1 ≤ 100 := by rw [← hlf, upto_len]; omega
        have hsz1 := hb1.size
        have hbw1 := below_chain hbZ hb1 hbZ.size
        have k0 : w2.cell? ⟨wx.heap.size + 1, 0, none⟩ = some (.int .i64 (la L v2).gate) := ((rZ.below hb1 rZ.lt).cell 0).trans rfl
        have k1 : w2.cell? ⟨wx.heap.size + 1, 1, none⟩ = some (.int .i64 ((la L v2).rank - 1)) := ((rZ.below hb1 rZ.lt).cell 1).trans rfl
        have hQm := hQ1.mono hbZ.size
        have hFm := Own.mono hF1 hbZ.size
        have hszZ := hbZ.size
        clear hQ1 hF1 hlq hlf hb1 rZ hbZ
        go_wp2_with fail
        refine (code_between 0 0 _ _ w.heap.size A1 B1 n1 c1' m1 d1 _ _ w2 hQm hFm (by omega) (by omega) gb.1 (by omega) hI0 HR2.out (by omega) (by omega) hap1 (by omega)).mono ?_
        rintro e w3 ⟨A', n', c', B', m', d', rfl, hQ2, hF2, hap2, hb2⟩
        rw [← HP.out] at hQ2
        rw [← HF.out] at hF2
        have hb3 := hbw1.trans hb2
        clear k0 k1 hQm hFm
        go_wp2_with fail
        go_ret2
        exact ⟨A', n', c', B', m', d', rfl, hQ2, hF2, hap2, hb3⟩
      · have q31 : ((la L v1).gate == (k : Int)) = false := by simpa using hk
        rw [show spanP (la L v1).gate (la L v1).rank (k : Int) = betwP (la L v1).gate (la L v1).rank (k : Int) 0 from (betw_span (.inl ⟨by omega, rfl⟩)).symm] at hP
        have HP := Lib.hid hP
        have HF := Lib.hid hF
        have HK := Lib.hid hk
        have hk' : (la L v1).gate < (k : Int) := by omega
        clear hP hF hk
        go_quiet (fail)
        generalize hY : X.drewN nq = Y
        have r9 : Blk Y wx.heap.size 50 #[.int .i64 (la L v1).gate, .int .i64 (la L v1).rank] := by rw [← hY]; exact h9.drewN _
        have r10 : Blk Y (wx.heap.size + 1) 50 #[.int .i64 (la L v2).gate, .int .i64 ((la L v2).rank - 1)] := by rw [← hY]; exact h10.drewN _
        have r11 : Blk Y (wx.heap.size + 1 + 1) 50 #[.int .i64 (k : Int), .int .i64 0] := by rw [← hY]; exact h11.drewN _
        have hbY : Below w.heap.size w Y := by rw [← hY]; exact below_drewN hbX _
        clear hY h9 h10 h11 hbX xA xP
        have s0 : Y.cell? ⟨wx.heap.size, 0, none⟩ = some (.int .i64 (la L v1).gate) := (r9.cell 0).trans rfl
        have s1 : Y.cell? ⟨wx.heap.size, 1, none⟩ = some (.int .i64 (la L v1).rank) := (r9.cell 1).trans rfl
        have s2 : Y.cell? ⟨wx.heap.size + 1 + 1, 0, none⟩ = some (.int .i64 (k : Int)) := (r11.cell 0).trans rfl
        have s3 : Y.cell? ⟨wx.heap.size + 1 + 1, 1, none⟩ = some (.int .i64 0) := (r11.cell 1).trans rfl
        have rZ := r10
        have hbZ := hbY
        clear r9 r10 r11 hbY
        go_wp2_with fail
        refine (code_between _ _ _ _ _ none none 0 0 0 0 [] [] _ (OwnQ.nil _ _) (Own.nil _ _) ga.1 (by omega) (by omega) (by omega) HR1.out hI0 (by omega) (by omega) (fun k hk => by cases hk) (Nat.le_refl _)).mono ?_
        rintro e w2 ⟨A1, n1, c1', B1, m1, d1, rfl, hQ1, hF1, hap1, hb1⟩
        have hlq := hQ1.len
        have hlf := hF1.len
        simp only [List.nil_append] at hQ1 hF1
        rw [List.nil_append] at hlq hlf
        have hlq' : n1 ≤ 100 := by rw [← hlq, betw_span (by omega)]; simp [spanP, flatPl, upto_len] <;> omega
        have hlf' : m1 ≤ 100 := by rw [← hlf, upto_len]; omega
        have hsz1 := hb1.size
        have hbw1 := below_chain hbZ hb1 hbZ.size
        have k0 : w2.cell? ⟨wx.heap.size + 1, 0, none⟩ = some (.int .i64 (la L v2).gate) := ((rZ.below hb1 rZ.lt).cell 0).trans rfl
        have k1 : w2.cell? ⟨wx.heap.size + 1, 1, none⟩ = some (.int .i64 ((la L v2).rank - 1)) := ((rZ.below hb1 rZ.lt).cell 1).trans rfl
        have hQm := hQ1.mono hbZ.size
        have hFm := Own.mono hF1 hbZ.size
        have hszZ := hbZ.size
        clear hQ1 hF1 hlq hlf hb1 rZ hbZ
        go_wp2_with fail
        refine (code_between 0 0 _ _ w.heap.size A1 B1 n1 c1' m1 d1 _ _ w2 hQm hFm (by omega) (by omega) gb.1 (by omega) hI0 HR2.out (by omega) (by omega) hap1 (by omega)).mono ?_
        rintro e w3 ⟨A', n', c', B', m', d', rfl, hQ2, hF2, hap2, hb2⟩
        rw [← HP.out] at hQ2
        rw [← HF.out] at hF2
        have hb3 := hbw1.trans hb2
        clear k0 k1 hQm hFm
        go_wp2_with fail
        go_ret2
        exact ⟨A', n', c', B', m', d', rfl, hQ2, hF2, hap2, hb3⟩
end Go.Proofs.YtkjcmppaapbabaaDoor
