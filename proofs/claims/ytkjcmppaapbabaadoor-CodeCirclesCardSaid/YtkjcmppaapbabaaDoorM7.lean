/-
  Contract: the program's left at a crossing. Conditions: the diagram of a well-formed code.
-/
import Derived.Test.YtkjcmppaapbabaaDoorM6
import Derived.Test.YtkjcmppaapbabaaDoorL5
namespace Go.Proofs.YtkjcmppaapbabaaDoor
open Go.RowKit
set_option maxRecDepth 100000 in
set_option maxHeartbeats 3200000 in
theorem dia_left_cross (d base p k : Nat) (A : Option Addr) (n c : Nat) (L : List Lt) (b g2 g3 g4 g6 : Nat) (s : List Bool) (P C ids : List Int) (w : World) (h : DiaF w base p k A n c L b g2 g3 g4 g6 s P C ids) (hlt : d < 2 * n) (hc : isC (la L (headN n d)) = true) :
    Calls Tryd.prog 123 #[.pointer (some ⟨p, 0, none⟩), .int .i64 d] w fun e w' => e = .returned (.int .i64 (leftF L (axL L) d)) ∧ Below w.heap.size w w' := by
  have hn := h.small
  have hA := h.lets
  have g := h.good
  have hLn : L.length = n := hA.len
  have hmp := g.m_pos
  have hml : (axL L).length ≤ n := by rw [axL_len, ← hLn]; exact pN_le L _
  have hD := h.ranks.dia
  have c1 := hD.c1
  have c2 := hD.c2
  have c3 := hD.c3
  have c4 := hD.c4
  obtain ⟨m, hm⟩ : ∃ m, m = (axL L).length := ⟨_, rfl⟩
  rw [← hm] at hmp hml c3
  obtain ⟨v, hv⟩ : ∃ v, v = headN n d := ⟨_, rfl⟩
  obtain ⟨e, he, hvn, hcase⟩ := head_facts hlt hv
  rw [← hv] at hc
  have hf := g.left_cross (d := d) (by omega) (by rw [hLn, ← hv]; exact hc)
  rw [hLn, ← hv] at hf
  have hov : othN L v < n := by rw [← hLn]; exact isC_lt (g.other hc).2.1
  have hlast := g.last hc
  rw [hLn] at hlast
  have htp : 0 < tN L (la L v).id n := ct_pos (i := v) hvn (by simp [hc])
  have hI := (hA.fits (la L v) (by unfold la; rw [List.getElem?_eq_getElem (by omega)]; exact List.getElem_mem _)).id
  have hk : (la L v).kind = 2 := by unfold isC at hc; simpa using hc
  obtain ⟨gg, o, rfl, hgl, hx, _⟩ := hA.at_ hvn
  obtain ⟨x0, x1, x2, x3, x4, x5⟩ := hx
  have q0 : decide ((2 : Int) * (n : Int) ≤ (d : Int)) = false := by simp; omega
  have q6 : ((la L v).kind == 1) = false := by simp; omega
  have v0 : (0 : Int) ≤ (v : Int) := by omega
  have v1 : (v : Int) < (n : Int) := by omega
  have l0 := hD.lt
  have l1 := h.ranks.down.lt
  have l2 := h.ranks.place.lt
  have HV := Lib.hid hv
  have HL1 := Lib.hid hlast
  have HVS := Lib.hid h.vis
  have HM := Lib.hid hm
  have HLn := Lib.hid hLn
  have HDD := Lib.hid hD
  clear hv hc hk hm hLn hD hlast
  cases hS : ((la L v).sign == 1) <;> cases hO : (la L v).over <;> rcases hcase with ⟨hp, hq⟩ | ⟨hp, hq⟩
  all_goals
    rw [hO, hS] at hf
    rw [hO] at HL1
    simp only [Bool.not_true, Bool.not_false] at HL1
    first
      | (have q2 : ((d : Int) % 2 == 0) = true := (by simp; omega)
         have q2' : (d % 2 == 0) = true := (by simp; omega)
         rw [q2'] at hf
         clear q2')
      | (have q2 : ((d : Int) % 2 == 0) = false := (by simp; omega)
         have q2' : (d % 2 == 0) = false := (by simp; omega)
         rw [q2'] at hf
         clear q2'
         subst hq)
    have HF := Lib.hid hf
    clear hf hp
    go_enter Tryd.func123, Tryd.ntmps123
    go_wp2_with fail
    go_quiet (fail)
    generalize hwx : w.drewN nq = wx
    have hbx : Below w.heap.size w wx := by rw [← hwx]; exact below_drewN (Below.refl _ _) _
    have hDx := HDD.out.next hbx
    have y1 := hDx.c1
    have y2 := hDx.c2
    have y4 := hDx.c4
    have y5 := hDx.c5
    have hVx := HVS.out.next hbx
    have z0 := (hbx.cell (World.block_lt_of_cell? w _ x0)).trans x0
    have z1 := (hbx.cell (World.block_lt_of_cell? w _ x1)).trans x1
    have z2 := (hbx.cell (World.block_lt_of_cell? w _ x2)).trans x2
    have z3 := (hbx.cell (World.block_lt_of_cell? w _ x3)).trans x3
    have z4 := (hbx.cell (World.block_lt_of_cell? w _ x4)).trans x4
    have z5 := (hbx.cell (World.block_lt_of_cell? w _ x5)).trans x5
    have hzz := hbx.size
    have m0 : p < wx.heap.size := by omega
    have m1 : g2 < wx.heap.size := by omega
    have m2 : g4 < wx.heap.size := by omega
    have m3 := World.block_lt_of_cell? wx _ z3
    clear hwx c1 c2 c3 c4 x0 x1 x2 x3 x4 x5
    go_wp2_with fail
    generalize hW : wx.alloc _ = W
    have hbW : Below wx.heap.size wx W := by rw [← hW]; exact (Below.refl _ _).alloc (Nat.le_refl _) _
    have hszW : W.heap.size = wx.heap.size + 1 := by rw [← hW]; simp
    have hDW := hDx.next hbW
    have hVW := hVx.next hbW
    have u1 := hDW.c1
    have u5 := hDW.c5
    have u3 := (hbW.cell m3).trans z3
    have hlA := (hVW.drew).get hI htp
    have hlB := ((hVW.alloc (.cells #[.int .i64 0, .int .i64 0] 139)).drew).get hI htp
    have n0 : p < W.heap.size := by omega
    have w3 : W.cell? ⟨wx.heap.size, 3, none⟩ = some (.int .i64 (la L v).id) := by rw [← hW]; rw [(Blk.new wx 46 _).cell 3]; rfl
    have w4 : W.cell? ⟨wx.heap.size, 4, none⟩ = some (.int .i64 (la L v).sign) := by rw [← hW]; rw [(Blk.new wx 46 _).cell 4]; rfl
    have w5 : W.cell? ⟨wx.heap.size, 5, none⟩ = some (.bool (la L v).over) := by rw [hO]; rw [← hW]; rw [(Blk.new wx 46 _).cell 5]; rfl
    clear hW
    go_region
    all_goals
      generalize hX2 : (World.alloc W _).drew = X2
      have hbX : Below W.heap.size W X2 := by rw [← hX2]; exact ((Below.refl _ _).alloc (Nat.le_refl _) _).drew
      have hpr : Blk X2 (wx.heap.size + 1) 139 #[.int .i64 (lastV L (la L v).id false n), .int .i64 (lastV L (la L v).id true n)] := by rw [← hX2, ← hszW]; exact (Blk.new W _ _).drew
      have r0 := hpr.cell 0
      have r1 := hpr.cell 1
      have s4 := (hbX.cell (World.block_lt_of_cell? W _ w4)).trans w4
      have s5 := (hbX.cell (World.block_lt_of_cell? W _ w5)).trans w5
      have hDX := hDW.next hbX
      have hzX := hbX.size
      go_wp2_with fail
      rw [HL1.out]
      have hb1 := below_chain hbx hbW hbx.size
      have hb2 := below_chain hb1 hbX hb1.size
      clear hlA hlB hDW hVW hVx hDx u1 u5 u3 w3 w4 w5 y1 y2 y4 y5 z0 z1 z2 z3 z4 z5 r0 r1 s4 s5 hpr hbX hbW hbx
    all_goals
      first
        | (refine (dia_forwards (othN L v) _ _ (by omega)).mono ?_
           rintro e w2 ⟨rfl, hb3⟩
           have hb4 := below_chain hb2 hb3 hb2.size
           go_wp2_with fail
           go_ret
           exact ⟨ret_int (by rw [HF.out]; simp [alongN]), hb4⟩)
        | (refine (dia_backwards (othN L v) p (k : Int) (some ⟨gg, o, none⟩) n c _ _ _ _ _ _ hDX hov (by omega)).mono ?_
           rintro e w2 ⟨rfl, hb3⟩
           have hb4 := below_chain hb2 hb3 hb2.size
           go_wp2_with fail
           go_ret
           exact ⟨ret_int (by rw [HF.out]; simp), hb4⟩)
end Go.Proofs.YtkjcmppaapbabaaDoor
