/-
  Contract: the program's left at a pass. Conditions: the diagram of a well-formed code.
-/
import Derived.Test.YtkjcmppaapbabaaDoorM4
import Derived.Test.YtkjcmppaapbabaaDoorL5
namespace Go.Proofs.YtkjcmppaapbabaaDoor
open Go.RowKit
set_option maxRecDepth 100000 in
set_option maxHeartbeats 3200000 in
theorem dia_left_pass (d base p k : Nat) (A : Option Addr) (n c : Nat) (L : List Lt) (b g2 g3 g4 g6 : Nat) (s : List Bool) (P C ids : List Int) (w : World) (h : DiaF w base p k A n c L b g2 g3 g4 g6 s P C ids) (hlt : d < 2 * n) (hc : isP (la L (headN n d)) = true) :
    Calls Tryd.prog 123 #[.pointer (some ⟨p, 0, none⟩), .int .i64 d] w fun e w' => e = .returned (.int .i64 (leftF L (axL L) d)) ∧ Below w.heap.size w w' := by
  have hn := h.small
  have hA := h.lets
  have g := h.good
  have hLn : L.length = n := hA.len
  have hmp := g.m_pos
  have hml : (axL L).length ≤ n := by rw [axL_len, ← hLn]; exact pN_le L _
  have hD := h.ranks.dia
  have c1 := hD.c1
  have c2 := hD.c2
  have c3 := hD.c3
  have c4 := hD.c4
  obtain ⟨m, hm⟩ : ∃ m, m = (axL L).length := ⟨_, rfl⟩
  rw [← hm] at hmp hml c3
  obtain ⟨v, hv⟩ : ∃ v, v = headN n d := ⟨_, rfl⟩
  obtain ⟨e, he, hvn, hcase⟩ := head_facts hlt hv
  rw [← hv] at hc
  have hf := g.left_pass (d := d) (by omega) (by rw [hLn, ← hv]; exact hc)
  rw [hLn, ← hv, ← hm] at hf
  obtain ⟨j, hj⟩ : ∃ j, j = atN L v := ⟨_, rfl⟩
  have hjm : j < m := by rw [hj, hm]; exact g.at_lt hc
  rw [← hj] at hf
  obtain ⟨t, ht⟩ : ∃ t, t = (j + m - 1) % m := ⟨_, rfl⟩
  have htm : t < m := by rw [ht]; exact Nat.mod_lt _ hmp
  rw [← ht] at hf
  have q9 : ((j : Int) - 1 + (m : Int)) % (m : Int) = (t : Int) := by
    rw [ht, Int.natCast_emod]
    congr 1
    omega
  have q9b : ((j : Int) - 1) % (m : Int) = (t : Int) := by rw [← q9]; simp
  have hk : (la L v).kind = 1 := by unfold isP at hc; simpa using hc
  have cs := h.ranks.down.cell hvn
  rw [h.ranks.downs v hc] at cs
  have cp := h.ranks.place.cell (h.ranks.places v hc)
  rw [← hj] at cp
  obtain ⟨gg, o, rfl, hgl, hx, _⟩ := hA.at_ hvn
  obtain ⟨x0, x1, x2, x3, x4, x5⟩ := hx
  have q0 : decide ((2 : Int) * (n : Int) ≤ (d : Int)) = false := by simp; omega
  have q6 : ((la L v).kind == 1) = true := by simpa using hk
  have v0 : (0 : Int) ≤ (v : Int) := by omega
  have v1 : (v : Int) < (n : Int) := by omega
  have l0 := hD.lt
  have l1 := h.ranks.down.lt
  have l2 := h.ranks.place.lt
  have HV := Lib.hid hv
  have HJ := Lib.hid hj
  have HT := Lib.hid ht
  have HM := Lib.hid hm
  have HLn := Lib.hid hLn
  have HDD := Lib.hid hD
  clear hv hc hk hj ht hm hLn hD q9
  cases hX : dwn L v <;> rcases hcase with ⟨hp, hq⟩ | ⟨hp, hq⟩
  all_goals
    rw [hX] at hf cs
    have HX := Lib.hid hX
    clear hX
    first
      | (have q2 : ((d : Int) % 2 == 0) = true := (by simp; omega)
         have q2' : (d % 2 == 0) = true := (by simp; omega)
         rw [q2'] at hf
         clear q2')
      | (have q2 : ((d : Int) % 2 == 0) = false := (by simp; omega)
         have q2' : (d % 2 == 0) = false := (by simp; omega)
         rw [q2'] at hf
         clear q2'
         subst hq)
    have HF := Lib.hid hf
    clear hf hp
    go_enter Tryd.func123, Tryd.ntmps123
    go_wp2_with fail
    go_quiet (fail)
    generalize hwx : w.drewN nq = wx
    have hbx : Below w.heap.size w wx := by rw [← hwx]; exact below_drewN (Below.refl _ _) _
    have y1 := (HDD.out.next hbx).c1
    have y2 := (HDD.out.next hbx).c2
    have y4 := (HDD.out.next hbx).c4
    have ys := (hbx.cell (World.block_lt_of_cell? w _ cs)).trans cs
    have yp := (hbx.cell (World.block_lt_of_cell? w _ cp)).trans cp
    have z0 := (hbx.cell (World.block_lt_of_cell? w _ x0)).trans x0
    have z1 := (hbx.cell (World.block_lt_of_cell? w _ x1)).trans x1
    have z2 := (hbx.cell (World.block_lt_of_cell? w _ x2)).trans x2
    have z3 := (hbx.cell (World.block_lt_of_cell? w _ x3)).trans x3
    have z4 := (hbx.cell (World.block_lt_of_cell? w _ x4)).trans x4
    have z5 := (hbx.cell (World.block_lt_of_cell? w _ x5)).trans x5
    have hzz := hbx.size
    have m0 : p < wx.heap.size := by omega
    have m1 : g2 < wx.heap.size := by omega
    have m2 : g4 < wx.heap.size := by omega
    clear hwx c1 c2 c3 c4 cs cp x0 x1 x2 x3 x4 x5
    go_wp2_with fail
    go_ret
    exact ⟨ret_int (by rw [HF.out]; simp), below_chain hbx ((Below.refl _ _).alloc (Nat.le_refl _) _) hbx.size⟩
end Go.Proofs.YtkjcmppaapbabaaDoor
