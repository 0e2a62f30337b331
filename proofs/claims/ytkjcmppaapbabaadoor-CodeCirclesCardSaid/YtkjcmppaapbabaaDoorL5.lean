/-
  Contract of the document's Turn: the step to the left. Conditions: the code's letters read and are well formed; the axis reads.
-/
import Derived.Test.YtkjcmppaapbabaaDoorL4
namespace Go.Proofs.YtkjcmppaapbabaaDoor
open Go.RowKit

theorem bool_eq_comm' (a b : Bool) : (a == b) = (b == a) := by cases a <;> cases b <;> rfl
set_option maxRecDepth 100000 in
set_option maxHeartbeats 1600000 in
theorem ref_Turn_axis (K : Int) (d : Nat) (A B : Option Addr) (n c m cb : Nat) (L : List Lt) (w : World) (hA : Lets w A n L) (g : Good K L) (hB : Ints w B m (natI (axL L))) (hd : d < dartsN L) (hge : 2 * n ≤ d) :
    Calls Tryd.prog 121 #[.agg #[.int .i64 K, .slice A n c], .slice B m cb, .int .i64 d] w fun e w' => e = .returned (.int .i64 (leftF L (axL L) d)) ∧ Below w.heap.size w w' := by
  have hle := hA.le
  have HL := Lib.hid hA.len
  have hlenm := hB.len
  rw [natI_len] at hlenm
  have hbx := Boxed.refl w K A n c
  have hbc := hbx.below
  have hmp := g.m_pos
  have hA' := hA.below hbc
  have hB' := hB.below hbc
  have hlem := hB.le
  unfold dartsN at hd
  rw [hlenm] at hd hmp
  have hLn : L.length = n := HL.out
  rw [hLn] at hd
  rcases Nat.mod_two_eq_zero_or_one d with h2 | h2
  · obtain ⟨j, hj⟩ : ∃ j, d = 2 * n + 2 * j := ⟨(d - 2 * n) / 2, by omega⟩
    have hjm : j < m := by omega
    obtain ⟨t, ht⟩ : ∃ t, t = (j + 1) % m := ⟨_, rfl⟩
    have htm : t < m := by rw [ht]; exact Nat.mod_lt _ hmp
    have hx := ax_pass (L := L) (j := t) (by rw [hlenm]; exact htm)
    obtain ⟨v, hv⟩ : ∃ v, v = xat (axL L) t := ⟨_, rfl⟩
    obtain ⟨ad, y, rfl, hy, _, _, hcy⟩ := hB'.at_ htm
    have hyv : y = (v : Int) := by
      have h1 := hy.out
      rw [natI_at (by rw [hlenm]; exact htm)] at h1
      rw [hv]; exact (Option.some.inj h1).symm
    subst hyv
    have hvn : v < n := by rw [hv, ← hLn]; exact hx.2
    have hf := Lib.hid (show leftF L (axL L) d = alongN n v (!dwn L v) by
      unfold leftF
      rw [hLn, hlenm, if_pos hge, if_pos h2, show (d - 2 * n) / 2 = j by omega, ← ht, ← hv])
    have q1 : ((d : Int) - 2 * (n : Int)) / 2 = (j : Int) := by omega
    have q2 : ((d : Int) % 2 == 0) = true := by simp; omega
    have q3 : ((j : Int) + 1) % (m : Int) = (t : Int) := by rw [ht]; simp
    have q4 : (0 : Int) ≤ (t : Int) := by omega
    have q5 : (t : Int) < (m : Int) := by omega
    have q6 : (2 : Int) * (n : Int) ≤ (d : Int) := by omega
    have HT := Lib.hid ht
    have HV := Lib.hid hv
    have HJ := Lib.hid hj
    have hlm := hlenm
    clear hy ht hv hj h2 hLn hlenm hx hlm
    go_enter Tryd.func121, Tryd.ntmps121
    go_wp2_with fail
    go_region_held3 (fun wx => Boxed w wx K A n c ∧ wx.cell? ⟨w.heap.size, 0, none⟩ = some (.int .i64 K) ∧ wx.cell? ⟨w.heap.size, 1, none⟩ = some (.slice A n c))
      (first | exact hbx.drew.s | exact Boxed.s (Boxed.more (And.left (by assumption)) (by assumption)))
      (first
        | (go_at_call 63; refine (ref_Down K v A n c L _ (hA.below (Boxed.below (And.left (by assumption)))) (by omega)).mono ?_; rintro e wx ⟨rfl, hb1⟩)
        | (go_at_call 147; refine (ref_along K v _ A n c _ hvn hle).mono ?_; rintro e wy ⟨rfl, hb2⟩))
    all_goals
      go_wp2_with fail
      go_ret
      exact ⟨ret_int (by rw [hf.out]), Boxed.below (And.left (by assumption))⟩
  · obtain ⟨j, hj⟩ : ∃ j, d = 2 * n + 2 * j + 1 := ⟨(d - 2 * n) / 2, by omega⟩
    have hjm : j < m := by omega
    have hx := ax_pass (L := L) (j := j) (by rw [hlenm]; exact hjm)
    obtain ⟨v, hv⟩ : ∃ v, v = xat (axL L) j := ⟨_, rfl⟩
    obtain ⟨ad, y, rfl, hy, _, _, hcy⟩ := hB'.at_ hjm
    have hyv : y = (v : Int) := by
      have h1 := hy.out
      rw [natI_at (by rw [hlenm]; exact hjm)] at h1
      rw [hv]; exact (Option.some.inj h1).symm
    subst hyv
    have hvn : v < n := by rw [hv, ← hLn]; exact hx.2
    have hf := Lib.hid (show leftF L (axL L) d = alongN n v (dwn L v) by
      unfold leftF
      rw [hLn, if_pos hge, if_neg (by omega), show (d - 2 * n) / 2 = j by omega, ← hv])
    have q1 : ((d : Int) - 2 * (n : Int)) / 2 = (j : Int) := by omega
    have q2 : ((d : Int) % 2 == 0) = false := by simp; omega
    have q4 : (0 : Int) ≤ (j : Int) := by omega
    have q5 : (j : Int) < (m : Int) := by omega
    have q6 : (2 : Int) * (n : Int) ≤ (d : Int) := by omega
    have HV := Lib.hid hv
    have HJ := Lib.hid hj
    clear hy hv hj h2 hLn hlenm hx
    go_enter Tryd.func121, Tryd.ntmps121
    go_wp2_with fail
    go_region_held3 (fun wx => Boxed w wx K A n c ∧ wx.cell? ⟨w.heap.size, 0, none⟩ = some (.int .i64 K) ∧ wx.cell? ⟨w.heap.size, 1, none⟩ = some (.slice A n c))
      (first | exact hbx.drew.s | exact Boxed.s (Boxed.more (And.left (by assumption)) (by assumption)))
      (first
        | (go_at_call 63; refine (ref_Down K v A n c L _ (hA.below (Boxed.below (And.left (by assumption)))) (by omega)).mono ?_; rintro e wx ⟨rfl, hb1⟩)
        | (go_at_call 147; refine (ref_along K v _ A n c _ hvn hle).mono ?_; rintro e wy ⟨rfl, hb2⟩))
    all_goals
      go_wp2_with fail
      go_ret
      exact ⟨ret_int (by rw [hf.out]), Boxed.below (And.left (by assumption))⟩
theorem head_facts {d n v : Nat} (hd : d < 2 * n) (hv : v = headN n d) : ∃ e : Nat, (d : Int) / 2 = (e : Int) ∧ v < n ∧ ((d % 2 = 0 ∧ ((e : Int) + 1) % (n : Int) = (v : Int)) ∨ (d % 2 = 1 ∧ v = e)) := by
  refine ⟨d / 2, by omega, by rw [hv]; exact headN_lt hd, ?_⟩
  unfold headN at hv
  rcases Nat.mod_two_eq_zero_or_one d with h | h
  · rw [if_pos h] at hv
    exact .inl ⟨h, by rw [hv]; simp⟩
  · rw [if_neg (by omega)] at hv
    exact .inr ⟨h, hv⟩
theorem atI_natI {X : List Nat} {v : Nat} (h : v ∈ X) : atI (natI X) (v : Int) = (idxN X v : Nat) := by
  unfold atI idxN natI
  rw [if_pos (List.mem_map.2 ⟨v, h, rfl⟩), List.findIdx_map]
  congr 1
  congr 1
  funext x
  simp only [Function.comp]
  rw [Bool.eq_iff_iff]
  simp
  omega
set_option maxRecDepth 100000 in
set_option maxHeartbeats 3200000 in
theorem ref_Turn_cross (K : Int) (d : Nat) (A B : Option Addr) (n c m cb : Nat) (L : List Lt) (w : World) (hA : Lets w A n L) (g : Good K L) (hB : Ints w B m (natI (axL L))) (hlt : d < 2 * n) (hc : isC (la L (headN n d)) = true) :
    Calls Tryd.prog 121 #[.agg #[.int .i64 K, .slice A n c], .slice B m cb, .int .i64 d] w fun e w' => e = .returned (.int .i64 (leftF L (axL L) d)) ∧ Below w.heap.size w w' := by
  have hle := hA.le
  have hLn : L.length = n := hA.len
  have hbx := Boxed.refl w K A n c
  have hA' := hA.below hbx.below
  have hlem := hB.le
  obtain ⟨v, hv⟩ : ∃ v, v = headN n d := ⟨_, rfl⟩
  obtain ⟨e, he, hvn, hcase⟩ := head_facts hlt hv
  rw [← hv] at hc
  have hov : othN L v < n := by rw [← hLn]; exact isC_lt (g.other hc).2.1
  have hf := g.left_cross (d := d) (by omega) (by rw [hLn, ← hv]; exact hc)
  rw [hLn, ← hv] at hf
  have hk : (la L v).kind = 2 := by unfold isC at hc; simpa using hc
  obtain ⟨gg, o, rfl, _, hx, _⟩ := hA'.at_ hvn
  obtain ⟨x0, x1, x2, x3, x4, x5⟩ := hx
  have q0 : decide ((2 : Int) * (n : Int) ≤ (d : Int)) = false := by simp; omega
  have q6 : ((la L v).kind == 2) = true := by simpa using hk
  have v0 : (0 : Int) ≤ (v : Int) := by omega
  have v1 : (v : Int) < (n : Int) := by omega
  have HV := Lib.hid hv
  clear hv hc hk
  cases hX : ((la L v).over == ((la L v).sign == 1)) <;> rcases hcase with ⟨hp, hq⟩ | ⟨hp, hq⟩
  all_goals
    rw [hX] at hf
    first
      | (have q2 : ((d : Int) % 2 == 0) = true := (by simp; omega)
         have q2' : (d % 2 == 0) = true := (by simp; omega)
         rw [q2'] at hf
         clear q2')
      | (have q2 : ((d : Int) % 2 == 0) = false := (by simp; omega)
         have q2' : (d % 2 == 0) = false := (by simp; omega)
         rw [q2'] at hf
         clear q2'
         subst hq)
    have HF := Lib.hid hf
    clear hf hp
    go_enter Tryd.func121, Tryd.ntmps121
    go_wp2_with fail
    try rw [hq]
    try clear hq
    go_region_held3 (fun wx => Boxed w wx K (some ⟨gg, o, none⟩) n c ∧ wx.cell? ⟨w.heap.size, 0, none⟩ = some (.int .i64 K) ∧ wx.cell? ⟨w.heap.size, 1, none⟩ = some (.slice (some ⟨gg, o, none⟩) n c))
      (first | exact (hbx.alloc _).drew.s | exact Boxed.s (Boxed.more (And.left (by assumption)) (by assumption)))
      (first
        | (go_at_call 148; refine (ref_Other K v (some ⟨gg, o, none⟩) n c L _ (hA.below (Boxed.below (And.left (by assumption)))) hvn).mono ?_; rintro e wx ⟨rfl, hb1⟩)
        | (go_at_call 147; refine (ref_along K (othN L v) _ (some ⟨gg, o, none⟩) n c _ hov hle).mono ?_; rintro e wy ⟨rfl, hb2⟩))
    all_goals
      go_wp2_with fail
      go_ret
      exact ⟨ret_int (by rw [HF.out]; rfl), Boxed.below (And.left (by assumption))⟩
set_option maxRecDepth 100000 in
set_option maxHeartbeats 3200000 in
theorem ref_Turn_pass (K : Int) (d : Nat) (A B : Option Addr) (n c m cb : Nat) (L : List Lt) (w : World) (hA : Lets w A n L) (g : Good K L) (hB : Ints w B m (natI (axL L))) (hlt : d < 2 * n) (hc : isP (la L (headN n d)) = true) :
    Calls Tryd.prog 121 #[.agg #[.int .i64 K, .slice A n c], .slice B m cb, .int .i64 d] w fun e w' => e = .returned (.int .i64 (leftF L (axL L) d)) ∧ Below w.heap.size w w' := by
  have hle := hA.le
  have hLn : L.length = n := hA.len
  have hbx := Boxed.refl w K A n c
  have hA' := hA.below hbx.below
  have hB' := hB.below hbx.below
  have hlem := hB.le
  have hlenm := hB.len
  rw [natI_len] at hlenm
  have hmp := g.m_pos
  rw [hlenm] at hmp
  obtain ⟨v, hv⟩ : ∃ v, v = headN n d := ⟨_, rfl⟩
  obtain ⟨e, he, hvn, hcase⟩ := head_facts hlt hv
  rw [← hv] at hc
  have hf := g.left_pass (d := d) (by omega) (by rw [hLn, ← hv]; exact hc)
  rw [hLn, ← hv, hlenm] at hf
  obtain ⟨j, hj⟩ : ∃ j, j = atN L v := ⟨_, rfl⟩
  have hjm : j < m := by rw [hj, ← hlenm]; exact g.at_lt hc
  have hat := atI_natI (X := axL L) (v := v) (List.mem_of_getElem? (g.at_ hc))
  rw [g.idx hc, ← hj] at hat
  rw [← hj] at hf
  obtain ⟨t, ht⟩ : ∃ t, t = (j + m - 1) % m := ⟨_, rfl⟩
  have htm : t < m := by rw [ht]; exact Nat.mod_lt _ hmp
  rw [← ht] at hf
  have q9 : ((j : Int) + (m : Int) - 1) % (m : Int) = (t : Int) := by
    rw [ht, Int.natCast_emod]
    congr 1
    omega
  have hk : (la L v).kind = 1 := by unfold isP at hc; simpa using hc
  obtain ⟨gg, o, rfl, _, hx, _⟩ := hA'.at_ hvn
  obtain ⟨x0, x1, x2, x3, x4, x5⟩ := hx
  have q0 : decide ((2 : Int) * (n : Int) ≤ (d : Int)) = false := by simp; omega
  have q6 : ((la L v).kind == 2) = false := by simp; omega
  have v0 : (0 : Int) ≤ (v : Int) := by omega
  have v1 : (v : Int) < (n : Int) := by omega
  have HV := Lib.hid hv
  have HAT := Lib.hid hat
  have HJ := Lib.hid hj
  have HT := Lib.hid ht
  have HM := Lib.hid hlenm
  have HLn := Lib.hid hLn
  have hvle : v ≤ n := by omega
  clear hv hc hk hat hj ht hlenm hLn
  cases hX : dwn L v <;> rcases hcase with ⟨hp, hq⟩ | ⟨hp, hq⟩
  all_goals
    rw [hX] at hf
    have HX := Lib.hid hX
    clear hX
    first
      | (have q2 : ((d : Int) % 2 == 0) = true := (by simp; omega)
         have q2' : (d % 2 == 0) = true := (by simp; omega)
         rw [q2'] at hf
         clear q2')
      | (have q2 : ((d : Int) % 2 == 0) = false := (by simp; omega)
         have q2' : (d % 2 == 0) = false := (by simp; omega)
         rw [q2'] at hf
         clear q2'
         subst hq)
    have HF := Lib.hid hf
    clear hf hp
    go_enter Tryd.func121, Tryd.ntmps121
    go_wp2_with fail
    try rw [hq]
    try clear hq
    refine (ref_at B m cb (natI (axL L)) _ _ (hB'.alloc _)).mono ?_
    rintro e1 w1 ⟨rfl, rfl⟩
    rw [HAT.out]
    go_wp2_with fail
    try rw [hq]
    try clear hq
    refine (ref_Down K v (some ⟨gg, o, none⟩) n c L _ (hA'.alloc _) hvle).mono ?_
    rintro e2 w2 ⟨rfl, hb2⟩
    rw [HX.out]
    go_wp2_with fail
    go_ret
    exact ⟨ret_int (by rw [HF.out]; simp), (hbx.alloc _).below.trans (hb2.mono (by simp; omega))⟩
/-- The step to the left. -/
theorem ref_Turn (K : Int) (d : Nat) (A B : Option Addr) (n c m cb : Nat) (L : List Lt) (w : World) (hA : Lets w A n L) (g : Good K L) (hB : Ints w B m (natI (axL L))) (hd : d < dartsN L) :
    Calls Tryd.prog 121 #[.agg #[.int .i64 K, .slice A n c], .slice B m cb, .int .i64 d] w fun e w' => e = .returned (.int .i64 (leftF L (axL L) d)) ∧ Below w.heap.size w w' := by
  rcases Nat.lt_or_ge d (2 * n) with h | h
  · rcases g.kinds (headN n d) (by rw [hA.len]; exact headN_lt h) with hp | hc
    · exact ref_Turn_pass K d A B n c m cb L w hA g hB h hp
    · exact ref_Turn_cross K d A B n c m cb L w hA g hB h hc
  · exact ref_Turn_axis K d A B n c m cb L w hA g hB hd h
end Go.Proofs.YtkjcmppaapbabaaDoor
