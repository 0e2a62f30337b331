/-
  Contracts: the program's forwards, backwards, left. Conditions: the diagram of a well-formed code.
-/
import Derived.Test.YtkjcmppaapbabaaDoorM3
namespace Go.Proofs.YtkjcmppaapbabaaDoor
open Go.RowKit
set_option maxHeartbeats 400000 in
theorem dia_forwards (i : Nat) (v : Value) (w : World) (hi : i ≤ 100000) :
    Calls Tryd.prog 155 #[v, .int .i64 i] w fun e w' => e = .returned (.int .i64 ((2 * i : Nat) : Int)) ∧ Below w.heap.size w w' := by
  go_enter Tryd.func155, Tryd.ntmps155
  go_wp2_with fail
  go_ret
  exact ⟨ret_int (by omega), Below.refl _ _⟩
set_option maxHeartbeats 400000 in
theorem dia_backwards (i p : Nat) (K : Int) (A : Option Addr) (n c : Nat) (v2 v3 v4 v5 v6 : Value) (w : World) (hd : Dia w p K A n c v2 v3 v4 v5 v6) (hi : i < n) (hn : n ≤ 1000) :
    Calls Tryd.prog 154 #[.pointer (some ⟨p, 0, none⟩), .int .i64 i] w fun e w' => e = .returned (.int .i64 ((alongN n i false : Nat) : Int)) ∧ Below w.heap.size w w' := by
  have c1 := hd.c1
  have hf := Lib.hid (show ((alongN n i false : Nat) : Int) = 2 * (((i : Int) - 1) % n) + 1 by
    have e1 : ((i + n - 1 : Nat) : Int) = (i : Int) - 1 + n := by omega
    have e2 : (((i + n - 1) % n : Nat) : Int) = ((i : Int) - 1 + n) % n := by rw [Int.natCast_emod, e1]
    have e3 : ((i : Int) - 1 + n) % n = ((i : Int) - 1) % n := by simp
    unfold alongN
    simp only [Bool.false_eq_true, if_false]
    omega)
  have hm0 : 0 ≤ ((i : Int) - 1) % n := Int.emod_nonneg _ (by omega)
  have hm1 : ((i : Int) - 1) % n < n := Int.emod_lt_of_pos _ (by omega)
  go_enter Tryd.func154, Tryd.ntmps154
  go_wp2_with fail
  go_ret
  exact ⟨ret_int (by rw [hf.out]), Below.refl _ _⟩
/-- What the walks need of a diagram. -/
structure DiaF (w : World) (base p k : Nat) (A : Option Addr) (n c : Nat) (L : List Lt) (b : Nat) (g2 g3 g4 g6 : Nat) (s : List Bool) (P C : List Int) (ids : List Int) : Prop where
  ranks : DiaR w base p k A n c L (.map (some b)) g2 g3 g4 g6 s P C
  vis : Vis w b L n ids
  lets : Lets w A n L
  good : Good (k : Int) L
  small : n ≤ 400
set_option maxRecDepth 100000 in
set_option maxHeartbeats 3200000 in
theorem dia_left_axis (d base p k : Nat) (A : Option Addr) (n c : Nat) (L : List Lt) (b g2 g3 g4 g6 : Nat) (s : List Bool) (P C ids : List Int) (w : World) (h : DiaF w base p k A n c L b g2 g3 g4 g6 s P C ids) (hd : d < dartsN L) (hge : 2 * n ≤ d) :
    Calls Tryd.prog 123 #[.pointer (some ⟨p, 0, none⟩), .int .i64 d] w fun e w' => e = .returned (.int .i64 (leftF L (axL L) d)) ∧ Below w.heap.size w w' := by
  have hn := h.small
  have hLn : L.length = n := h.lets.len
  have hmp := h.good.m_pos
  have hml : (axL L).length ≤ n := by rw [axL_len, ← hLn]; exact pN_le L _
  have hD := h.ranks.dia
  have c1 := hD.c1
  have c2 := hD.c2
  have c3 := hD.c3
  unfold dartsN at hd
  rw [hLn] at hd
  obtain ⟨m, hm⟩ : ∃ m, m = (axL L).length := ⟨_, rfl⟩
  rw [← hm] at hd hmp hml c3
  have HM := Lib.hid hm
  have HD := Lib.hid hD
  rcases Nat.mod_two_eq_zero_or_one d with h2 | h2
  · obtain ⟨j, hj⟩ : ∃ j, d = 2 * n + 2 * j := ⟨(d - 2 * n) / 2, by omega⟩
    have hjm : j < m := by omega
    obtain ⟨t, ht⟩ : ∃ t, t = (j + 1) % m := ⟨_, rfl⟩
    have htm : t < m := by rw [ht]; exact Nat.mod_lt _ hmp
    have hx := ax_pass (L := L) (j := t) (by rw [← hm]; exact htm)
    obtain ⟨v, hv⟩ : ∃ v, v = xat (axL L) t := ⟨_, rfl⟩
    have cx := h.ranks.axis.cell (natI_at (k := t) (by rw [← hm]; exact htm))
    have cy := h.ranks.axis.cell (natI_at (k := j) (by rw [← hm]; exact hjm))
    rw [← hv] at cx hx
    obtain ⟨y, hy⟩ : ∃ y, y = xat (axL L) j := ⟨_, rfl⟩
    rw [← hy] at cy
    have hvn : v < n := by rw [← hLn]; exact hx.2
    have cs := h.ranks.down.cell hvn
    rw [h.ranks.downs v hx.1] at cs
    have hf := Lib.hid (show leftF L (axL L) d = alongN n v (!dwn L v) by
      unfold leftF
      rw [hLn, ← hm, if_pos hge, if_pos h2, show (d - 2 * n) / 2 = j by omega, ← ht, ← hv])
    have q1 : ((d : Int) - 2 * (n : Int)) / 2 = (j : Int) := by omega
    have q2 : ((d : Int) % 2 == 0) = true := by simp; omega
    have q3 : ((j : Int) + 1) % (m : Int) = (t : Int) := by rw [ht]; simp
    have q11 : ((j : Int) + 1).tmod (m : Int) = (t : Int) := by rw [Int.tmod_eq_emod_of_nonneg (by omega)]; exact q3
    have q16 : IntKind.i64.wrap ((j : Int) + 1) = (j : Int) + 1 := IntWalk.i64_in _ (by omega)
    have q17 : IntKind.i64.wrap (t : Int) = (t : Int) := IntWalk.i64_in _ (by omega)
    have q18 : (0 : Int) ≤ (j : Int) + 1 := by omega
    have q19 : ¬ (m : Int) = 0 := by omega
    have q20 : ¬ m = 0 := by omega
    have q22 : (j + 1) % m = t := ht.symm
    have q23 : t < m := htm
    have q21 : (m == 0) = false := by simp; omega
    have q12 : (0 : Int) < (m : Int) := by omega
    have q13 : ((m : Int) == 0) = false := by simp; omega
    have q14 : 1 ≤ (m : Int) := by omega
    have q15 : 0 < m := by omega
    have q4 : (0 : Int) ≤ (t : Int) := by omega
    have q5 : (t : Int) < (m : Int) := by omega
    have q6 : (2 : Int) * (n : Int) ≤ (d : Int) := by omega
    have q7 : (0 : Int) ≤ (j : Int) := by omega
    have q8 : (j : Int) < (m : Int) := by omega
    have q9 : (0 : Int) ≤ (v : Int) := by omega
    have q10 : (v : Int) < (n : Int) := by omega
    have HT := Lib.hid ht
    have HV := Lib.hid hv
    have HJ := Lib.hid hj
    clear ht hv hj h2 hLn hx hm hy hD
    have hax := h.ranks.axis
    have hdn := h.ranks.down
    cases hw : dwn L v with
    | false =>
      rw [hw] at hf cs
      have HW := Lib.hid hw
      clear hw
      go_enter Tryd.func123, Tryd.ntmps123
      go_wp2_with fail
      go_quiet (fail)
      go_wp2_with fail
      generalize hwx : w.drewN nq = wx
      have hbx : Below w.heap.size w wx := by rw [← hwx]; exact below_drewN (Below.refl _ _) _
      have x1 := (hbx.cell (World.block_lt_of_cell? w _ cx)).trans cx
      have x2 := (HD.out.next hbx).c3
      rw [← HM.out] at x2
      have x3 := (hbx.cell (World.block_lt_of_cell? w _ cs)).trans cs
      have x4 := (HD.out.next hbx).c2
      clear hwx c1 c2 c3 cx cy cs hax hdn
      go_quiet (fail)
      go_wp2_with fail
      refine (dia_forwards v _ _ (by omega)).mono ?_
      rintro e w2 ⟨rfl, hb2⟩
      have hb3 := below_chain (below_drewN hbx _) hb2 hbx.size
      go_wp2_with fail
      go_ret
      exact ⟨ret_int (by rw [hf.out]; simp [alongN]), hb3⟩
    | true =>
      rw [hw] at hf cs
      have HW := Lib.hid hw
      clear hw
      go_enter Tryd.func123, Tryd.ntmps123
      go_wp2_with fail
      go_quiet (fail)
      go_wp2_with fail
      generalize hwx : w.drewN nq = wx
      have hbx : Below w.heap.size w wx := by rw [← hwx]; exact below_drewN (Below.refl _ _) _
      have x1 := (hbx.cell (World.block_lt_of_cell? w _ cx)).trans cx
      have x2 := (HD.out.next hbx).c3
      rw [← HM.out] at x2
      have x3 := (hbx.cell (World.block_lt_of_cell? w _ cs)).trans cs
      have x4 := (HD.out.next hbx).c2
      have HDx := Lib.hid (HD.out.next hbx)
      clear hwx c1 c2 c3 cx cy cs hax hdn
      go_quiet (fail)
      go_wp2_with fail
      refine (dia_backwards v p (k : Int) A n c _ _ _ _ _ _ (Dia.drewN HDx.out _) hvn (by omega)).mono ?_
      rintro e w2 ⟨rfl, hb2⟩
      have hb3 := below_chain (below_drewN hbx _) hb2 hbx.size
      go_wp2_with fail
      go_ret
      exact ⟨ret_int (by rw [hf.out]; simp), hb3⟩
  · obtain ⟨j, hj⟩ : ∃ j, d = 2 * n + 2 * j + 1 := ⟨(d - 2 * n) / 2, by omega⟩
    have hjm : j < m := by omega
    have hx := ax_pass (L := L) (j := j) (by rw [← hm]; exact hjm)
    obtain ⟨v, hv⟩ : ∃ v, v = xat (axL L) j := ⟨_, rfl⟩
    have cx := h.ranks.axis.cell (natI_at (k := j) (by rw [← hm]; exact hjm))
    rw [← hv] at cx hx
    have hvn : v < n := by rw [← hLn]; exact hx.2
    have cs := h.ranks.down.cell hvn
    rw [h.ranks.downs v hx.1] at cs
    have hf := Lib.hid (show leftF L (axL L) d = alongN n v (dwn L v) by
      unfold leftF
      rw [hLn, if_pos hge, if_neg (by omega), show (d - 2 * n) / 2 = j by omega, ← hv])
    have q1 : ((d : Int) - 2 * (n : Int)) / 2 = (j : Int) := by omega
    have q2 : ((d : Int) % 2 == 0) = false := by simp; omega
    have q6 : (2 : Int) * (n : Int) ≤ (d : Int) := by omega
    have q7 : (0 : Int) ≤ (j : Int) := by omega
    have q8 : (j : Int) < (m : Int) := by omega
    have q9 : (0 : Int) ≤ (v : Int) := by omega
    have q10 : (v : Int) < (n : Int) := by omega
    have HV := Lib.hid hv
    have HJ := Lib.hid hj
    clear hv hj h2 hLn hx hm hD
    cases hw : dwn L v with
    | true =>
      rw [hw] at hf cs
      have HW := Lib.hid hw
      clear hw
      go_enter Tryd.func123, Tryd.ntmps123
      go_wp2_with fail
      go_quiet (fail)
      go_wp2_with fail
      refine (dia_forwards v _ _ (by omega)).mono ?_
      rintro e w2 ⟨rfl, hb2⟩
      have hb3 := below_chain (below_drewN (Below.refl w.heap.size w) _) hb2 (Nat.le_refl _)
      go_wp2_with fail
      go_ret
      exact ⟨ret_int (by rw [hf.out]; simp [alongN]), hb3⟩
    | false =>
      rw [hw] at hf cs
      have HW := Lib.hid hw
      clear hw
      go_enter Tryd.func123, Tryd.ntmps123
      go_wp2_with fail
      go_quiet (fail)
      go_wp2_with fail
      refine (dia_backwards v p (k : Int) A n c _ _ _ _ _ _ (Dia.drewN HD.out _) hvn (by omega)).mono ?_
      rintro e w2 ⟨rfl, hb2⟩
      have hb3 := below_chain (below_drewN (Below.refl w.heap.size w) _) hb2 (Nat.le_refl _)
      go_wp2_with fail
      go_ret
      exact ⟨ret_int (by rw [hf.out]), hb3⟩
end Go.Proofs.YtkjcmppaapbabaaDoor
