/-
  Contracts: the program's valid, read, Check. Conditions: the letters read.
  Contracts: the program's read, Check. Conditions: the letters read.
  Contracts: the program's below, between. Conditions: the diagram of a well-formed code; bounds.
-/
import Derived.Test.YtkjcmppaapbabaaDoorJE
import Derived.Test.YtkjcmppaapbabaaDoorJC
namespace Go.Proofs.YtkjcmppaapbabaaDoor
section
open Go.RowKit
def vcells (p : Nat) : Array Value := #[.func (.func 149) #[.pointer (some ⟨p, 0, none⟩)] #[], .func (.func 150) #[.pointer (some ⟨p, 0, none⟩)] #[], .func (.func 151) #[.pointer (some ⟨p, 0, none⟩)] #[], .func (.func 152) #[.pointer (some ⟨p, 0, none⟩)] #[], .func (.func 153) #[.pointer (some ⟨p, 0, none⟩)] #[]]
theorem fnInfo : (Tryd.prog.info? 28).map (fun i => (i.zero, i.size, i.bytes)) = some (some .nilFunc, 1, 8) := by kernel_rfl
theorem buildV (p : Nat) (w : World) : (Instr.buildSlice 138 5 #[(0, .func (.func 149) #[.pointer (some ⟨p, 0, none⟩)] #[]), (1, .func (.func 150) #[.pointer (some ⟨p, 0, none⟩)] #[]), (2, .func (.func 151) #[.pointer (some ⟨p, 0, none⟩)] #[]), (3, .func (.func 152) #[.pointer (some ⟨p, 0, none⟩)] #[]), (4, .func (.func 153) #[.pointer (some ⟨p, 0, none⟩)] #[])]).run Tryd.prog w = .ok (.slice (some ⟨w.heap.size, 0, none⟩) 5 5) (w.alloc (.cells (vcells p) 28)) := by
  obtain ⟨i0, hi, hz0, hz1, hz2⟩ := info_parts fnInfo
  refine run_buildSlice w _ _ 5 _ _ i0 _ Tryd.underlying138 hi hz0 (by rw [hz1]; omega) (by rw [hz1]; omega) ?_
  rw [hz1]
  kernel_rfl
/-- What stands behind i tests. -/
def VS (w : World) (p k : Nat) (A : Option Addr) (n c : Nat) (L : List Lt) (v2 v3 v4 v5 v6 : Value) (i : Nat) (wr : World) : Prop :=
  (i = 0 ∧ Dia wr p (k : Int) A n c v2 v3 v4 v5 v6) ∨ (i = 1 ∧ lettersP (k : Int) L = true ∧ Dia wr p (k : Int) A n c v2 v3 v4 v5 v6) ∨
  (i = 2 ∧ lettersP (k : Int) L = true ∧ (isP (la L 0) && decide (pN L n % 2 = 0)) = true ∧ Dia wr p (k : Int) A n c v2 v3 v4 v5 v6) ∨
  (i = 3 ∧ lettersP (k : Int) L = true ∧ (isP (la L 0) && decide (pN L n % 2 = 0)) = true ∧ ranksP L = true ∧ ∃ base g2 g3 g4 g6 s P C, w.heap.size ≤ base ∧ DiaR wr base p k A n c L v5 g2 g3 g4 g6 s P C) ∨
  (i = 4 ∧ lettersP (k : Int) L = true ∧ (isP (la L 0) && decide (pN L n % 2 = 0)) = true ∧ ranksP L = true ∧ crossP L = true ∧ ∃ base b g2 g3 g4 g6 s P C ids, w.heap.size ≤ base ∧ DiaF wr base p k A n c L b g2 g3 g4 g6 s P C ids) ∨
  (i = 5 ∧ validB2 (k : Int) L = true ∧ ∃ base b g2 g3 g4 g6 s P C ids, w.heap.size ≤ base ∧ DiaF wr base p k A n c L b g2 g3 g4 g6 s P C ids)
def ValidPost (w : World) (p k : Nat) (A : Option Addr) (n c : Nat) (L : List Lt) (v2 v3 v4 v5 v6 : Value) (e : Ending) (w' : World) : Prop :=
  e = .returned (.bool (decide (n = 0) || validB2 (k : Int) L)) ∧ w.grownBy w' (some p) ∧ (n = 0 → Dia w' p (k : Int) A n c v2 v3 v4 v5 v6) ∧
  (0 < n → validB2 (k : Int) L = true → ∃ base b g2 g3 g4 g6 s P C ids, w.heap.size ≤ base ∧ DiaF w' base p k A n c L b g2 g3 g4 g6 s P C ids)
theorem valid_no {K : Int} {L : List Lt} {n : Nat} (hL : L.length = n) (h : lettersP K L = false ∨ (isP (la L 0) && decide (pN L n % 2 = 0)) = false ∨ ranksP L = false ∨ crossP L = false ∨ flatB L = false) : validB2 K L = false := by
  unfold validB2
  rw [← letters_iff, hL]
  rcases h with h | h | h | h | h <;> rw [h] <;> simp
theorem valid_yes {K : Int} {L : List Lt} {n : Nat} (hL : L.length = n) (h1 : lettersP K L = true) (h2 : (isP (la L 0) && decide (pN L n % 2 = 0)) = true) (h3 : ranksP L = true) (h4 : crossP L = true) (h5 : flatB L = true) : validB2 K L = true := by
  unfold validB2
  rw [← letters_iff, hL, h1, h2, h3, h4, h5]
  rfl
theorem DiaR.grown {w w' : World} {base p k : Nat} {A : Option Addr} {n c : Nat} {L : List Lt} {v5 v5' : Value} {g2 g3 g4 g6 : Nat} {s : List Bool} {P C : List Int} (h : DiaR w base p k A n c L v5 g2 g3 g4 g6 s P C) (hb : p < base) (hg : w.grownBy w' (some p))
    (hd : Dia w' p (k : Int) A n c (.slice (some ⟨g2, 0, none⟩) n n) (.slice (some ⟨g3, 0, none⟩) (axL L).length (axL L).length) (.slice (some ⟨g4, 0, none⟩) n n) v5' (.slice (some ⟨g6, 0, none⟩) (k + 1) (k + 1))) : DiaR w' base p k A n c L v5' g2 g3 g4 g6 s P C :=
  ⟨hd, h.down.kept hg (by have := h.down.base; simp; omega), h.axis.kept hg (by have := h.axis.base; simp; omega), h.place.kept hg (by have := h.place.base; simp; omega), h.count.kept hg (by have := h.count.base; simp; omega), h.downs, h.places, h.counts, h.ndown⟩
set_option maxRecDepth 100000 in
set_option maxHeartbeats 6400000 in
theorem dia_valid (p k : Nat) (A : Option Addr) (n c : Nat) (L : List Lt) (v2 v3 v4 v5 v6 : Value) (w : World) (hA : Lets w A n L) (hn : n ≤ 400) (hk40 : k ≤ 40)
    (hpA : 0 < n → ∀ a, A = some a → p ≠ a.block) (hd : Dia w p (k : Int) A n c v2 v3 v4 v5 v6) :
    Calls Tryd.prog 122 #[.pointer (some ⟨p, 0, none⟩)] w (ValidPost w p k A n c L v2 v3 v4 v5 v6) := by
  have hLn := hA.len
  have hHL := Lib.hid hLn
  have c1 := hd.c1
  have hplt := hd.lt
  rcases Nat.eq_zero_or_pos n with h0 | h0
  · subst h0
    clear hLn
    go_enter Tryd.func122, Tryd.ntmps122
    go_wp2_with fail
    go_ret
    exact ⟨rfl, World.grownBy.refl _ _, fun _ => hd, fun h => by omega⟩
  · have h00 : ((n : Int) == 0) = false := by simp; omega
    have hpA := hpA h0
    have hdn : decide (n = 0) = false := by simp; omega
    have hbv := buildV p
    have hB0 : Blk (w.alloc (.cells (vcells p) 28)) w.heap.size 28 (vcells p) := Blk.new _ _ _
    have hD0 := hd.alloc (.cells (vcells p) 28)
    have hg0 : w.grownBy (w.alloc (.cells (vcells p) 28)) (some p) := World.grownBy_alloc _ _ _
    clear hLn
    unfold ValidPost
    rw [hdn, Bool.false_or]
    go_enter Tryd.func122, Tryd.ntmps122
    go_wp2_with fail
    go_loopw [4, 24] (fun _ v24 wr => ∃ i : Nat, i ≤ 5 ∧ v24 = .int .i64 i ∧ VS w p k A n c L v2 v3 v4 v5 v6 i wr ∧ w.grownBy wr (some p) ∧ Blk wr w.heap.size 28 (vcells p)) (fun _ v24 _ => 5 - (intOf v24).toNat)
    case atStart => exact ⟨0, by omega, rfl, .inl ⟨rfl, hD0⟩, hg0, hB0⟩
    case round =>
      obtain ⟨i, hi, rfl, hV, hg, hB⟩ := hrel
      clear hB0 hD0 hg0 hbv hd c1
      have hAr := hA.growG hg (fun a ha e => hpA a ha (by injection e))
      have hsz := hg.size
      have e0 : wr.cell? ⟨w.heap.size, 0, none⟩ = some (.func (.func 149) #[.pointer (some ⟨p, 0, none⟩)] #[]) := (hB.cell 0).trans rfl
      have e1 : wr.cell? ⟨w.heap.size, 1, none⟩ = some (.func (.func 150) #[.pointer (some ⟨p, 0, none⟩)] #[]) := (hB.cell 1).trans rfl
      have e2 : wr.cell? ⟨w.heap.size, 2, none⟩ = some (.func (.func 151) #[.pointer (some ⟨p, 0, none⟩)] #[]) := (hB.cell 2).trans rfl
      have e3 : wr.cell? ⟨w.heap.size, 3, none⟩ = some (.func (.func 152) #[.pointer (some ⟨p, 0, none⟩)] #[]) := (hB.cell 3).trans rfl
      have e4 : wr.cell? ⟨w.heap.size, 4, none⟩ = some (.func (.func 153) #[.pointer (some ⟨p, 0, none⟩)] #[]) := (hB.cell 4).trans rfl
      rcases hV with ⟨rfl, hD⟩ | ⟨rfl, t1, hD⟩ | ⟨rfl, t1, t2, hD⟩ | ⟨rfl, t1, t2, t3, base, g2, g3, g4, g6, s, P, C, hbase, hR⟩ | ⟨rfl, t1, t2, t3, t4, base, b, g2, g3, g4, g6, s, P, C, ids, hbase, hF⟩ | ⟨rfl, tv, base, b, g2, g3, g4, g6, s, P, C, ids, hbase, hF⟩
      · clear e1 e2 e3 e4
        cases hx : lettersP (k : Int) L with
        | true =>
          have HX := Lib.hid hx
          go_wp2_with fail
          refine (dia_letters p (k : Int) A n c L _ _ _ _ _ _ hAr hD).mono ?_
          rintro e w1 ⟨rfl, hb1⟩
          have hD1 := hD.next hb1
          have hB1 := hB.below hb1 hB.lt
          have hg1 := only_below hg hb1 hg.size
          rw [hx]
          clear hx hD hB hg
          go_wp2_with fail
          go_roundw
          case rel => exact ⟨1, by omega, by go_num, .inr (.inl ⟨rfl, HX.out, hD1⟩), hg1, hB1⟩
          case measure => simp [intOf]
        | false =>
          have HX := Lib.hid (valid_no hHL.out (.inl hx))
          go_wp2_with fail
          refine (dia_letters p (k : Int) A n c L _ _ _ _ _ _ hAr hD).mono ?_
          rintro e w1 ⟨rfl, hb1⟩
          have hg1 := only_below hg hb1 hg.size
          rw [hx]
          clear hx hD hB hg
          go_wp2_with fail
          go_ret
          exact ⟨ret_bool HX.out.symm, hg1, fun h => by omega, fun _ h => by rw [HX.out] at h; cases h⟩
      · clear e0 e2 e3 e4
        have T1 := Lib.hid t1
        clear t1
        cases hx : (isP (la L 0) && decide (pN L n % 2 = 0)) with
        | true =>
          have HX := Lib.hid hx
          go_wp2_with fail
          refine (dia_begins p (k : Int) A n c L _ _ _ _ _ _ hAr h0 hD).mono ?_
          rintro e w1 ⟨rfl, hb1⟩
          have hD1 := hD.next hb1
          have hB1 := hB.below hb1 hB.lt
          have hg1 := only_below hg hb1 hg.size
          rw [hx]
          clear hx hD hB hg
          go_wp2_with fail
          go_roundw
          case rel => exact ⟨2, by omega, by go_num, .inr (.inr (.inl ⟨rfl, T1.out, HX.out, hD1⟩)), hg1, hB1⟩
          case measure => simp [intOf]
        | false =>
          have HX := Lib.hid (valid_no (K := (k : Int)) hHL.out (.inr (.inl hx)))
          go_wp2_with fail
          refine (dia_begins p (k : Int) A n c L _ _ _ _ _ _ hAr h0 hD).mono ?_
          rintro e w1 ⟨rfl, hb1⟩
          have hg1 := only_below hg hb1 hg.size
          rw [hx]
          clear hx hD hB hg
          go_wp2_with fail
          go_ret
          exact ⟨ret_bool HX.out.symm, hg1, fun h => by omega, fun _ h => by rw [HX.out] at h; cases h⟩
      · clear e0 e1 e3 e4
        have T1 := Lib.hid t1
        have T2 := Lib.hid t2
        clear t1 t2
        cases hx : ranksP L with
        | true =>
          have HX := Lib.hid hx
          go_wp2_with fail
          refine (dia_ranks p k A n c L _ _ _ _ _ _ hAr hn hk40 T1.out hpA hD).mono ?_
          rintro e w1 ⟨rfl, hg1, hr⟩
          have hB1 := hB.grown hg1 (by simp; omega)
          have hg2 := only_trans hg hg1
          obtain ⟨g2, g3, g4, g6, s, P, C, hR⟩ := hr hx
          rw [hx]
          clear hx hD hB hg hr
          go_wp2_with fail
          go_roundw
          case rel => exact ⟨3, by omega, by go_num, .inr (.inr (.inr (.inl ⟨rfl, T1.out, T2.out, HX.out, _, g2, g3, g4, g6, s, P, C, hsz, hR⟩))), hg2, hB1⟩
          case measure => simp [intOf]
        | false =>
          have HX := Lib.hid (valid_no (K := (k : Int)) hHL.out (.inr (.inr (.inl hx))))
          go_wp2_with fail
          refine (dia_ranks p k A n c L _ _ _ _ _ _ hAr hn hk40 T1.out hpA hD).mono ?_
          rintro e w1 ⟨rfl, hg1, hr⟩
          have hg2 := only_trans hg hg1
          rw [hx]
          clear hx hD hB hg hr
          go_wp2_with fail
          go_ret
          exact ⟨ret_bool HX.out.symm, hg2, fun h => by omega, fun _ h => by rw [HX.out] at h; cases h⟩
      · clear e0 e1 e2 e4
        have T1 := Lib.hid t1
        have T2 := Lib.hid t2
        have T3 := Lib.hid t3
        clear t1 t2 t3
        have hD := hR.dia
        cases hx : crossP L with
        | true =>
          have HX := Lib.hid hx
          go_wp2_with fail
          refine (dia_crossings p (k : Int) A n c L _ _ _ _ _ _ hAr hn hpA hD).mono ?_
          rintro e w1 ⟨rfl, hg1, hr⟩
          have hB1 := hB.grown hg1 (by simp; omega)
          have hg2 := only_trans hg hg1
          obtain ⟨b, ids, hbb, hD1, hV1⟩ := hr hx
          have hR1 := hR.grown (by omega) hg1 hD1
          have hL1 := hAr.growG hg1 (fun a ha e => hpA a ha (by injection e))
          have hF1 : DiaF w1 base p k A n c L b g2 g3 g4 g6 s P C ids := ⟨hR1, hV1, hL1, good_of_parts (by rw [hHL.out]; exact h0) (by have := T2.out; simp at this; exact this.1) (by have := T2.out; simp at this; rw [hHL.out]; exact this.2) T1.out T3.out HX.out, hn⟩
          rw [hx]
          clear hx hD hB hg hr hD1 hV1 hR1 hL1 hR
          go_wp2_with fail
          go_roundw
          case rel => exact ⟨4, by omega, by go_num, .inr (.inr (.inr (.inr (.inl ⟨rfl, T1.out, T2.out, T3.out, HX.out, base, b, g2, g3, g4, g6, s, P, C, ids, hbase, hF1⟩)))), hg2, hB1⟩
          case measure => simp [intOf]
        | false =>
          have HX := Lib.hid (valid_no (K := (k : Int)) hHL.out (.inr (.inr (.inr (.inl hx)))))
          go_wp2_with fail
          refine (dia_crossings p (k : Int) A n c L _ _ _ _ _ _ hAr hn hpA hD).mono ?_
          rintro e w1 ⟨rfl, hg1, hr⟩
          have hg2 := only_trans hg hg1
          rw [hx]
          clear hx hD hB hg hr hR
          go_wp2_with fail
          go_ret
          exact ⟨ret_bool HX.out.symm, hg2, fun h => by omega, fun _ h => by rw [HX.out] at h; cases h⟩
      · clear e0 e1 e2 e3
        have T1 := Lib.hid t1
        have T2 := Lib.hid t2
        have T3 := Lib.hid t3
        have T4 := Lib.hid t4
        clear t1 t2 t3 t4
        cases hx : flatB L with
        | true =>
          have HX := Lib.hid (valid_yes hHL.out T1.out T2.out T3.out T4.out hx)
          go_wp2_with fail
          refine (dia_flat base p k A n c L b g2 g3 g4 g6 s P C ids _ hF).mono ?_
          rintro e w1 ⟨rfl, hb1⟩
          have hF1 := hF.next hb1
          have hB1 := hB.below hb1 hB.lt
          have hg1 := only_below hg hb1 hg.size
          rw [hx]
          clear hx hB hg hF
          go_wp2_with fail
          go_roundw
          case rel => exact ⟨5, by omega, by go_num, .inr (.inr (.inr (.inr (.inr ⟨rfl, HX.out, base, b, g2, g3, g4, g6, s, P, C, ids, hbase, hF1⟩)))), hg1, hB1⟩
          case measure => simp [intOf]
        | false =>
          have HX := Lib.hid (valid_no (K := (k : Int)) hHL.out (.inr (.inr (.inr (.inr hx)))))
          go_wp2_with fail
          refine (dia_flat base p k A n c L b g2 g3 g4 g6 s P C ids _ hF).mono ?_
          rintro e w1 ⟨rfl, hb1⟩
          have hg1 := only_below hg hb1 hg.size
          rw [hx]
          clear hx hB hg hF
          go_wp2_with fail
          go_ret
          exact ⟨ret_bool HX.out.symm, hg1, fun h => by omega, fun _ h => by rw [HX.out] at h; cases h⟩
      · have TV := Lib.hid tv
        clear tv e0 e1 e2 e3 e4
        go_wp2_with fail
        go_ret
        exact ⟨ret_bool TV.out.symm, hg, fun h => by omega, fun _ _ => ⟨base, b, g2, g3, g4, g6, s, P, C, ids, hbase, hF⟩⟩
end

section
open Go.RowKit
/-- What read leaves where the code is valid. -/
def ReadOk (w : World) (K : Int) (A : Option Addr) (n c : Nat) (L : List Lt) (p : Nat) (w' : World) : Prop :=
  ∃ k : Nat, K = (k : Int) ∧ k ≤ 40 ∧ n ≤ 400 ∧ w.heap.size ≤ p ∧
    ((n = 0 ∧ Dia w' p K A n c (.slice none 0 0) (.slice none 0 0) (.slice none 0 0) (.map none) (.slice none 0 0)) ∨ (0 < n ∧ ∃ base b g2 g3 g4 g6 s P C ids, w.heap.size ≤ base ∧ DiaF w' base p k A n c L b g2 g3 g4 g6 s P C ids))
def ReadPost (w : World) (K : Int) (A : Option Addr) (n c : Nat) (L : List Lt) (e : Ending) (w' : World) : Prop :=
  ∃ v, e = .returned (.tuple #[v, .int .i64 (checkE K L)]) ∧ Below w.heap.size w w' ∧ (checkE K L = 0 → ∃ p, v = .pointer (some ⟨p, 0, none⟩) ∧ ReadOk w K A n c L p w')
theorem chk_7 {K : Int} {L : List Lt} (h : 400 < L.length ∨ 200 < cN L L.length) : checkE K L = 7 := by unfold checkE; rw [if_pos h]
theorem chk_2 {K : Int} {L : List Lt} (h : ¬(400 < L.length ∨ 200 < cN L L.length)) (h2 : K < 0 ∨ 40 < K) : checkE K L = 2 := by unfold checkE; rw [if_neg h, if_pos h2]
theorem chk_v {K : Int} {L : List Lt} {n : Nat} (hL : L.length = n) (h : ¬(400 < L.length ∨ 200 < cN L L.length)) (h2 : ¬(K < 0 ∨ 40 < K)) : checkE K L = if (decide (n = 0) || validB2 K L) = true then 0 else 3 := by
  unfold checkE
  rw [if_neg h, if_neg h2]
  subst hL
  by_cases h3 : L.length = 0
  · rw [if_pos h3, if_pos (by simp [h3])]
  · rw [if_neg h3]
    cases validB2 K L <;> simp [h3]
set_option maxRecDepth 100000 in
set_option maxHeartbeats 6400000 in
theorem code_read (K : Int) (A : Option Addr) (n c : Nat) (L : List Lt) (w : World) (hA : Lets w A n L) :
    Calls Tryd.prog 80 #[.agg #[.int .i64 K, .slice A n c]] w (ReadPost w K A n c L) := by
  have hle := hA.le
  have hLn : L.length = n := hA.len
  have hbx := Boxed.refl w K A n c
  have hcn := cN_le L n
  have hbd := build_dia K A n c
  by_cases h400 : 400 < n
  · have hf := Lib.hid (chk_7 (K := K) (L := L) (.inl (by omega)))
    have q : (400 : Int) < (n : Int) := by omega
    clear hLn
    go_enter Tryd.func80, Tryd.ntmps80
    go_wp2_with fail
    go_ret2
    exact ⟨.pointer none, by rw [hf.out]; rfl, hbx.below, fun h => by rw [hf.out] at h; cases h⟩
  · have q : decide ((400 : Int) < (n : Int)) = false := by simp; omega
    by_cases h200 : 200 < cN L n
    · have hf := Lib.hid (chk_7 (K := K) (L := L) (.inr (by rw [hLn]; exact h200)))
      have q2 : (200 : Int) < (cN L n : Int) := by omega
      clear hLn
      go_enter Tryd.func80, Tryd.ntmps80
      go_wp2_with fail
      refine (code_crosses K A n c L _ (hA.below hbx.below)).mono ?_
      rintro e w1 ⟨rfl, hb1⟩
      have hb2 := hbx.more hb1
      go_wp2_with fail
      go_ret2
      exact ⟨.pointer none, by rw [hf.out]; rfl, hb2.below, fun h => by rw [hf.out] at h; cases h⟩
    · have q2 : decide ((200 : Int) < (cN L n : Int)) = false := by simp; omega
      have hno : ¬(400 < L.length ∨ 200 < cN L L.length) := by rw [hLn]; omega
      by_cases hK : K < 0 ∨ 40 < K
      · have hf := Lib.hid (chk_2 (K := K) (L := L) hno hK)
        have hall : K < 0 ∨ (decide (K < 0) = false ∧ 40 < K) := by simp; omega
        clear hK hLn hno
        rcases hall with k1 | ⟨k1, k2⟩
        all_goals
          go_enter Tryd.func80, Tryd.ntmps80
          go_wp2_with fail
          refine (code_crosses K A n c L _ (hA.below hbx.below)).mono ?_
          rintro e w1 ⟨rfl, hb1⟩
          have hb2 := hbx.more hb1
          have x0 := hb2.c0
          have x1 := hb2.c1
          go_wp2_with fail
          go_ret2
          exact ⟨.pointer none, by rw [hf.out]; rfl, hb2.below, fun h => by rw [hf.out] at h; cases h⟩
      · have k1 : decide (K < 0) = false := by simp; omega
        have k2 : decide (40 < K) = false := by simp; omega
        have hf := chk_v hLn hno hK
        obtain ⟨k, rfl⟩ : ∃ k : Nat, K = (k : Int) := ⟨K.toNat, by omega⟩
        have hk40 : k ≤ 40 := by omega
        have hHL := Lib.hid hLn
        have HK : Hid (¬(k : Int) < 0) := Lib.hid (by omega)
        clear hno hK hLn
        cases hv : (decide (n = 0) || validB2 (k : Int) L) with
        | true =>
          rw [hv, if_pos rfl] at hf
          have HF := Lib.hid hf
          have HV := Lib.hid hv
          clear hf hv
          go_enter Tryd.func80, Tryd.ntmps80
          go_wp2_with fail
          refine (code_crosses (k : Int) A n c L _ (hA.below hbx.below)).mono ?_
          rintro e w1 ⟨rfl, hb1⟩
          have hb2 := hbx.more hb1
          have x0 := hb2.c0
          have x1 := hb2.c1
          have hAw := hA.below hb2.below
          have hs2 := hb2.size
          have hpA : 0 < n → ∀ a, A = some a → w1.heap.size ≠ a.block := fun hn a ha => by
            obtain ⟨g, o, e, hg, _⟩ := hAw.2.2.2 hn
            rw [ha] at e
            injection e with e
            subst e
            simp
            omega
          have HPA := Lib.hid hpA
          clear hpA
          go_wp2_with fail
          refine (dia_valid w1.heap.size k A n c L (.slice none 0 0) (.slice none 0 0) (.slice none 0 0) (.map none) (.slice none 0 0) _ (hAw.alloc _) (by omega) hk40 HPA.out (Blk.new w1 _ _)).mono ?_
          rintro e w2 ⟨rfl, hg2, hz, hF2⟩
          have h5 : Below w1.heap.size w1 w2 := ((Below.refl _ _).alloc (Nat.le_refl _) _).trans (below_of_only hg2 (Nat.le_refl _) (by simp))
          have h6 := below_chain hb2.below h5 (by omega)
          rw [HV.out]
          have HZ := Lib.hid hz
          have HF2 := Lib.hid hF2
          clear x0 x1 hb2 hb1 hbx hg2 hz hF2 hAw h5
          go_wp2_with fail
          go_ret2
          refine ⟨.pointer (some ⟨w1.heap.size, 0, none⟩), by rw [HF.out]; rfl, h6, fun _ => ⟨w1.heap.size, rfl, k, rfl, hk40, by omega, by omega, ?_⟩⟩
          rcases Nat.eq_zero_or_pos n with h0 | h0
          · exact .inl ⟨h0, HZ.out h0⟩
          · have hv := HV.out
            rw [show decide (n = 0) = false by simp; omega, Bool.false_or] at hv
            obtain ⟨base, b, g2, g3, g4, g6, s, P, C, ids, hbase, hF⟩ := HF2.out h0 hv
            have hsz : (w1.alloc (.cells #[.int .i64 (k : Int), .slice A n c, .slice none 0 0, .slice none 0 0, .slice none 0 0, .map none, .slice none 0 0] 87)).heap.size = w1.heap.size + 1 := by simp
            exact .inr ⟨h0, base, b, g2, g3, g4, g6, s, P, C, ids, by omega, hF⟩
        | false =>
          rw [hv] at hf
          have HF := Lib.hid (show checkE (k : Int) L = 3 from hf)
          have HV := Lib.hid hv
          clear hf hv
          go_enter Tryd.func80, Tryd.ntmps80
          go_wp2_with fail
          refine (code_crosses (k : Int) A n c L _ (hA.below hbx.below)).mono ?_
          rintro e w1 ⟨rfl, hb1⟩
          have hb2 := hbx.more hb1
          have x0 := hb2.c0
          have x1 := hb2.c1
          have hAw := hA.below hb2.below
          have hs2 := hb2.size
          have hpA : 0 < n → ∀ a, A = some a → w1.heap.size ≠ a.block := fun hn a ha => by
            obtain ⟨g, o, e, hg, _⟩ := hAw.2.2.2 hn
            rw [ha] at e
            injection e with e
            subst e
            simp
            omega
          have HPA := Lib.hid hpA
          clear hpA
          go_wp2_with fail
          refine (dia_valid w1.heap.size k A n c L (.slice none 0 0) (.slice none 0 0) (.slice none 0 0) (.map none) (.slice none 0 0) _ (hAw.alloc _) (by omega) hk40 HPA.out (Blk.new w1 _ _)).mono ?_
          rintro e w2 ⟨rfl, hg2, hz, hF2⟩
          have h5 : Below w1.heap.size w1 w2 := ((Below.refl _ _).alloc (Nat.le_refl _) _).trans (below_of_only hg2 (Nat.le_refl _) (by simp))
          have h6 := below_chain hb2.below h5 (by omega)
          rw [HV.out]
          have HZ := Lib.hid hz
          have HF2 := Lib.hid hF2
          clear x0 x1 hb2 hb1 hbx hg2 hz hF2 hAw h5
          go_wp2_with fail
          go_ret2
          exact ⟨.pointer none, by rw [HF.out]; rfl, h6, fun h => by rw [HF.out] at h; cases h⟩
set_option maxHeartbeats 800000 in
/-- The program's Check. -/
theorem code_Check (K : Int) (A : Option Addr) (n c : Nat) (L : List Lt) (w : World) (hA : Lets w A n L) :
    Calls Tryd.prog 26 #[.agg #[.int .i64 K, .slice A n c]] w fun e w' => e = .returned (.int .i64 (checkE K L)) ∧ Below w.heap.size w w' := by
  have hbx := Boxed.refl w K A n c
  have x0 := hbx.c0
  have x1 := hbx.c1
  go_enter Tryd.func26, Tryd.ntmps26
  go_wp2_with fail
  refine (code_read K A n c L _ (hA.below hbx.below)).mono ?_
  rintro e w1 ⟨v, rfl, hb1, _⟩
  have hb2 := hbx.more hb1
  clear x0 x1 hbx hb1
  go_wp2_with fail
  go_ret
  exact ⟨rfl, hb2.below⟩
end

section
open Go.RowKit
set_option maxRecDepth 100000 in
set_option maxHeartbeats 3200000 in
theorem dia_below (base p k : Nat) (A : Option Addr) (n c : Nat) (L : List Lt) (b g2 g3 g4 g6 : Nat) (s : List Bool) (P C ids : List Int) (w : World) (h : DiaF w base p k A n c L b g2 g3 g4 g6 s P C ids) :
    Calls Tryd.prog 81 #[.pointer (some ⟨p, 0, none⟩)] w fun e w' => ∃ g s', e = .returned (.slice (some ⟨g, 0, none⟩) n n) ∧ OwnB w' w.heap.size g n s' ∧ (∀ j, j < n → sat s' j = !dwn L (j + 1)) ∧ Below w.heap.size w w' := by
  have hn400 := h.small
  have hLn := Lib.hid h.lets.len
  have hnle : n ≤ 17592186044416 := by omega
  have c1 := h.ranks.dia.c1
  go_enter Tryd.func81, Tryd.ntmps81
  go_wp2_with (at_make; refine makeBW rfl _ _ rfl n _ rfl rfl rfl hnle (Nat.le_refl _) ?_; intro ws hs0 hbs0 hzs; have e1 := (h.next hbs0).ranks.dia.c1)
  go_loopw [4, 5, 6, 20] (fun v4 _ _ v20 wr => ∃ (i : Nat) (s' : List Bool), i ≤ n ∧ v20 = .int .i64 i ∧ v4 = .bool (!dwn L i) ∧ OwnB wr w.heap.size w.heap.size n s' ∧ Below w.heap.size w wr ∧ Hid (∀ j, j < i → sat s' j = !dwn L (j + 1))) (fun _ _ _ v20 _ => n - (intOf v20).toNat)
  case atStart => exact ⟨0, List.replicate n false, Nat.zero_le _, rfl, rfl, hs0, hbs0, Lib.hid (fun j hj => by omega)⟩
  case round =>
    obtain ⟨i, s', hi, rfl, rfl, hs, hbw, HS⟩ := hrel
    clear hs0 hbs0 c1 e1
    have hF := h.next hbw
    have d1 := hF.ranks.dia.c1
    have d2 := hF.ranks.dia.c2
    by_cases hlt : i < n
    · obtain ⟨gg, o, rfl, hgl, hx, _⟩ := hF.lets.at_ hlt
      obtain ⟨x0, x1, x2, x3, x4, x5⟩ := hx
      have i0 : (0 : Int) ≤ (i : Int) := by omega
      have i1 : (i : Int) < (n : Int) := by omega
      have hcs := hF.ranks.down.cell hlt
      have l2 := hF.ranks.down.lt
      have lp := hF.ranks.dia.lt
      have lw := hs.lt
      have hfz := hs.frozen i
      have hcz := hs.cell hlt
      have hs1 : ∀ v, v = (!dwn L (i + 1)) → Hid (∀ j, j < i + 1 → sat (s'.set i v) j = !dwn L (j + 1)) := fun v hv => Lib.hid (fun j hj => by
        unfold sat
        by_cases e : i = j
        · subst e
          rw [List.getElem?_set_self (by rw [hs.len]; exact hlt), hv]; rfl
        · rw [List.getElem?_set_ne e]
          exact HS.out j (by omega))
      have HS1 := Lib.hid hs1
      clear hs1
      by_cases hp : (la L i).kind = 1
      · have hp1 := isP_t hp
        have q6 : ((la L i).kind == 1) = true := by simpa using hp
        rw [hF.ranks.downs i hp1] at hcs
        have hval := dwn_step hp1
        have HV := Lib.hid (show dwn L i = !dwn L (i + 1) by rw [hval]; simp)
        clear hp hp1 hF hval
        go_wp2_with fail
        go_roundw
        case rel => exact ⟨i + 1, s'.set i (dwn L i), by omega, by go_num, by rw [HV.out], (hs.stored i _).alloc _, (hbw.setCell (p := ⟨w.heap.size, i, none⟩) (Nat.le_refl _) _).alloc (by simp; exact hbw.size) _, HS1.out _ HV.out⟩
        case measure => simp [intOf]; omega
      · have hp1 := isP_f hp
        have q6 : ((la L i).kind == 1) = false := by simpa using hp
        have hval := dwn_stay hp1
        have HV := Lib.hid (show (!dwn L i) = !dwn L (i + 1) by rw [hval])
        clear hp hp1 hF hval
        go_wp2_with fail
        go_roundw
        case rel => exact ⟨i + 1, s'.set i (!dwn L i), by omega, by go_num, by rw [HV.out], (hs.stored i _).alloc _, (hbw.setCell (p := ⟨w.heap.size, i, none⟩) (Nat.le_refl _) _).alloc (by simp; exact hbw.size) _, HS1.out _ HV.out⟩
        case measure => simp [intOf]; omega
    · obtain rfl : n = i := by omega
      go_wp2_with fail
      go_ret
      exact ⟨_, s', rfl, hs, HS.out, hbw⟩
theorem plInfo : (Tryd.prog.info? 50).map (fun i => (i.zero, i.size, i.bytes)) = some (some (.agg #[.int .i64 0, .int .i64 0]), 2, 16) := by kernel_rfl
/-- 'append(places, p)'. -/
theorem pushQ {w : World} {ops : Array Oper} {rest : List Oper} {o : Oper} {a : Act} {Q' : Exit → Act → World → Prop} (hgd : o.guard = none) (s x : Operand)
    (ho : o.op = .call { callee := .builtin .append, args := #[s, x], argTypes := #[36, 36] })
    {base : Nat} {A : Option Addr} {n c : Nat} {Q : List Plc} (hst : OwnQ w base A n c Q) (q : Plc) (hq : PlOk q) (hs : a.eval s = .slice A n c)
    (H : Nat) (hH : w.heap.size = H) (hx : a.eval x = .slice (some ⟨H, 0, none⟩) 1 1) (N : Nat) (hN : n + 1 = N) (hn : N ≤ 1000000) (hbase : base ≤ w.heap.size)
    (h : ∀ A' c' w', OwnQ w' base A' N c' (Q ++ [q]) → w.grownBy w' (blk A) → (∀ k, blk A' = some k → blk A = some k ∨ w.heap.size < k) → wpList Tryd.prog ops Q' rest (a.put o.dst (.slice A' N c')) w') :
    wpList Tryd.prog ops Q' (o :: rest) a (w.alloc (.cells #[.int .i64 q.gate, .int .i64 q.left] 50)) := by
  subst hH
  obtain ⟨i0, hi, hz0, hz1, hz2⟩ := info_parts plInfo
  refine appR hgd s x 36 ho 50 i0 _ 2 16 Tryd.underlying36 hi hz0 hz1 hz2 rfl (by decide) (hst.row.alloc _) (Src.new (m := 1) (cs := [.int .i64 q.gate, .int .i64 q.left]) rfl)
    (by intro u hu; simp at hu; rcases hu with rfl | rfl <;> rfl) hs hx N hN (by unfold maxLen; omega) (by omega) (by simp; omega) ?_
  intro A' c' w' h1 h2 h3 _
  refine h A' c' w' ⟨by rw [List.flatMap_append]; exact h1, fun y hy => ?_⟩ (only_trans (World.grownBy_alloc w _ _) h2) (fun k hk => ?_)
  · rcases List.mem_append.1 hy with hy | hy
    · exact hst.fits y hy
    · simp at hy; subst hy; exact hq
  · rcases h3 k hk with h | h
    · exact .inl h
    · right; simp at h; omega
theorem betwP_step {g r tg tr : Int} (h : g < tg) : betwP g r tg tr = ⟨g, r⟩ :: betwP (g + 1) 0 tg tr := by
  unfold betwP
  rw [if_pos h]
  by_cases h2 : g + 1 < tg
  · rw [if_pos h2, upto_cons (show g < tg - 1 by omega)]; rfl
  · rw [if_neg h2, upto_none (by omega)]; rfl
theorem betwP_end {g r tg tr : Int} (h : ¬g < tg) : betwP g r tg tr = [⟨tg, tr⟩] := by unfold betwP; rw [if_neg h]
theorem OwnQ.kept {w w' : World} {base : Nat} {A : Option Addr} {n c : Nat} {Q : List Plc} {row : Option Nat} (h : OwnQ w base A n c Q) (hg : w.grownBy w' row) (hne : blk A = none ∨ blk A ≠ row) : OwnQ w' base A n c Q := ⟨h.row.kept hg hne, h.fits⟩
theorem buildQ1 (g r : Int) (w : World) : (Instr.buildSlice 36 1 #[(0, .agg #[.int .i64 g, .int .i64 r])]).run Tryd.prog w = .ok (.slice (some ⟨w.heap.size, 0, none⟩) 1 1) (w.alloc (.cells #[.int .i64 g, .int .i64 r] 50)) := by
  obtain ⟨i0, hi, hz0, hz1, hz2⟩ := info_parts plInfo
  refine run_buildSlice w _ _ 1 _ _ i0 _ Tryd.underlying36 hi hz0 (by rw [hz1]; omega) (by rw [hz1]; omega) ?_
  rw [hz1]
  kernel_rfl
theorem build_place1 (g : Int) (w : World) : (Instr.build 50 #[(0, .int .i64 g)]).run Tryd.prog w = .ok (.agg #[.int .i64 g, .int .i64 0]) w := run_build w _ _ _ (by kernel_rfl)
theorem build_place2 (g r : Int) (w : World) : (Instr.build 50 #[(0, .int .i64 g), (1, .int .i64 r)]).run Tryd.prog w = .ok (.agg #[.int .i64 g, .int .i64 r]) w := run_build w _ _ _ (by kernel_rfl)
theorem build_place0 (w : World) : (Instr.build 50 #[]).run Tryd.prog w = .ok (.agg #[.int .i64 0, .int .i64 0]) w := run_build w _ _ _ (by kernel_rfl)
def cellI (w : World) (g : Nat) : Int := match w.cell? ⟨g, 0, none⟩ with | some (.int _ z) => z | _ => 0
theorem cellI_of {w : World} {g : Nat} {z : Int} (h : w.cell? ⟨g, 0, none⟩ = some (.int .i64 z)) : cellI w g = z := by unfold cellI; rw [h]
/-- Two own slices that share no block. -/
def Apart (A B : Option Addr) : Prop := ∀ k, blk A = some k → blk B ≠ some k
def BetwPost (base : Nat) (w : World) (Q : List Plc) (F : List Int) (e : Ending) (w' : World) : Prop :=
  ∃ A' n' c' B' m' d', e = .returned (.tuple #[.slice A' n' c', .slice B' m' d']) ∧ OwnQ w' base A' n' c' Q ∧ Own w' base B' m' d' F ∧ Apart A' B' ∧ Below base w w'
set_option maxRecDepth 100000 in
set_option maxHeartbeats 3200000 in
theorem code_between (g r tg tr : Int) (base : Nat) (A B : Option Addr) (n c m d : Nat) (Q : List Plc) (F : List Int) (w : World) (hQ : OwnQ w base A n c Q) (hF : Own w base B m d F) (hg0 : 0 ≤ g) (hg1 : g ≤ 100) (ht0 : 0 ≤ tg) (ht1 : tg ≤ 100) (hr : I64 r) (htr : I64 tr)
    (hn : n ≤ 900000) (hm : m ≤ 900000) (hap : Apart A B) (hbase : base ≤ w.heap.size) :
    Calls Tryd.prog 156 #[.agg #[.int .i64 g, .int .i64 r], .agg #[.int .i64 tg, .int .i64 tr], .slice A n c, .slice B m d] w (BetwPost base w (Q ++ betwP g r tg tr) (F ++ upto g tg)) := by
  have hbq := buildQ1
  have hbp := build_place1
  have HR := Lib.hid hr
  have HTR := Lib.hid htr
  clear hr htr
  obtain ⟨gt, hgt⟩ : ∃ gt : Nat, gt = (tg - g).toNat := ⟨_, rfl⟩
  have hQ1 := (hQ.alloc (.cells #[.int .i64 g, .int .i64 r] 50)).alloc (.cells #[.int .i64 tg, .int .i64 tr] 50)
  have hF1 := (hF.alloc (.cells #[.int .i64 g, .int .i64 r] 50)).alloc (.cells #[.int .i64 tg, .int .i64 tr] 50)
  have hB1 := (Blk.new w 50 #[.int .i64 g, .int .i64 r]).alloc (.cells #[.int .i64 tg, .int .i64 tr] 50)
  have hB2 : Blk ((w.alloc (.cells #[.int .i64 g, .int .i64 r] 50)).alloc (.cells #[.int .i64 tg, .int .i64 tr] 50)) (w.heap.size + 1) 50 #[.int .i64 tg, .int .i64 tr] := heap_alloc2_new w _ _
  have hb1 : Below base w ((w.alloc (.cells #[.int .i64 g, .int .i64 r] 50)).alloc (.cells #[.int .i64 tg, .int .i64 tr] 50)) := ((Below.refl _ _).alloc hbase _).alloc (by simp; omega) _
  have hA0 : ∀ k, blk A = some k → k < w.heap.size := fun k hk => (hQ.row.lt k hk).2
  have hB0 : ∀ k, blk B = some k → k < w.heap.size := fun k hk => (hF.lt k hk).2
  go_enter Tryd.func156, Tryd.ntmps156
  go_wp2_with fail
  generalize (w.alloc (.cells #[.int .i64 g, .int .i64 r] 50)).alloc (.cells #[.int .i64 tg, .int .i64 tr] 50) = ws at hQ1 hF1 hB1 hB2 hb1 ⊢
  go_loopw [2, 3] (fun v2 v3 wr => ∃ (γ ρ : Int) (At Bt : Option Addr) (nt ct mt dt : Nat) (Qt : List Plc) (Ft : List Int), v2 = .slice At nt ct ∧ v3 = .slice Bt mt dt ∧ Blk wr w.heap.size 50 #[.int .i64 γ, .int .i64 ρ] ∧ Blk wr (w.heap.size + 1) 50 #[.int .i64 tg, .int .i64 tr] ∧ OwnQ wr base At nt ct Qt ∧ Own wr base Bt mt dt Ft ∧ Apart At Bt ∧
      (∀ k, blk At = some k → k ≠ w.heap.size ∧ k ≠ w.heap.size + 1) ∧ (∀ k, blk Bt = some k → k ≠ w.heap.size ∧ k ≠ w.heap.size + 1) ∧ Below base w wr ∧ 0 ≤ γ ∧ γ ≤ 100 ∧ I64 ρ ∧ nt + (tg - γ).toNat ≤ n + gt ∧ mt + (tg - γ).toNat ≤ m + gt ∧ Hid (Qt ++ betwP γ ρ tg tr = Q ++ betwP g r tg tr ∧ Ft ++ upto γ tg = F ++ upto g tg)) (fun _ _ wr => (tg - cellI wr w.heap.size).toNat)
  case atStart => exact ⟨g, r, A, B, n, c, m, d, Q, F, rfl, rfl, hB1, hB2, hQ1, hF1, hap, fun k hk => by have := hA0 k hk; omega, fun k hk => by have := hB0 k hk; omega, hb1, hg0, hg1, HR.out, by omega, by omega, Lib.hid ⟨rfl, rfl⟩⟩
  case round =>
    obtain ⟨γ, ρ, At, Bt, nt, ct, mt, dt, Qt, Ft, rfl, rfl, hBa, hBb, hQt, hFt, hapt, hAf, hBf, hbw, hγ0, hγ1, hρ, hnt, hmt, HE⟩ := hrel
    clear hQ1 hF1 hB1 hB2 hb1
    have x0 : wr.cell? ⟨w.heap.size, 0, none⟩ = some (.int .i64 γ) := (hBa.cell 0).trans rfl
    have x1 : wr.cell? ⟨w.heap.size, 1, none⟩ = some (.int .i64 ρ) := (hBa.cell 1).trans rfl
    have y0 : wr.cell? ⟨w.heap.size + 1, 0, none⟩ = some (.int .i64 tg) := (hBb.cell 0).trans rfl
    have y1 : wr.cell? ⟨w.heap.size + 1, 1, none⟩ = some (.int .i64 tr) := (hBb.cell 1).trans rfl
    have hsz := hbw.size
    have l1 := hBa.lt
    have l2 := hBb.lt
    have HGT := Lib.hid hgt
    by_cases hlt : γ < tg
    · have hE1 := HE.out
      rw [betwP_step hlt, upto_cons hlt] at hE1
      have HE1 := Lib.hid (show (Qt ++ [⟨γ, ρ⟩]) ++ betwP (γ + 1) 0 tg tr = Q ++ betwP g r tg tr ∧ (Ft ++ [γ + 1]) ++ upto (γ + 1) tg = F ++ upto g tg by simpa using hE1)
      have hok : PlOk ⟨γ, ρ⟩ := ⟨⟨by simp only []; omega, by simp only []; omega⟩, hρ⟩
      have hm0 := cellI_of x0
      clear HE hE1
      go_wp2_with (first
        | (at_builtin; refine pushQ rfl _ _ rfl hQt ⟨γ, ρ⟩ hok rfl wr.heap.size rfl rfl (nt + 1) rfl (by omega) (by omega) ?_
           intro A2 c2 w2 hQ2 hg2 ha2
           have hBa2 := hBa.grown hg2 (fun e => absurd rfl (hAf _ e.symm).1)
           have hBb2 := hBb.grown hg2 (fun e => absurd rfl (hAf _ e.symm).2)
           have hF2 := hFt.kept hg2 (by
             cases hb : blk Bt with
             | none => exact .inl rfl
             | some q => exact .inr (fun e => hapt q e.symm hb))
           have z0 : w2.cell? ⟨w.heap.size, 0, none⟩ = some (.int .i64 γ) := (hBa2.cell 0).trans rfl
           have z1 : w2.cell? ⟨w.heap.size, 1, none⟩ = some (.int .i64 ρ) := (hBa2.cell 1).trans rfl
           have zf0 := hBa2.frozen 0
           have zf1 := hBa2.frozen 1
           have hsz2 := hg2.size
           have hne : ∀ k, blk A2 = some k → k ≠ w.heap.size ∧ k ≠ w.heap.size + 1 ∧ k < w2.heap.size ∧ blk Bt ≠ some k := fun k hk => by
             have hk2 := (hQ2.row.lt k hk).2
             rcases ha2 k hk with e | e
             · exact ⟨(hAf k e).1, (hAf k e).2, hk2, hapt k e⟩
             · refine ⟨by omega, by omega, hk2, fun eb => ?_⟩
               have := (hFt.lt k eb).2
               omega
           have gS : w2.grownBy ((w2.setCell ⟨w.heap.size, 0, none⟩ (.int .i64 (γ + 1))).setCell ⟨w.heap.size, 1, none⟩ (.int .i64 0)) (some w.heap.size) := only_setCell (only_setCell (World.grownBy.refl _ _) (p := ⟨w.heap.size, 0, none⟩) (.inl rfl) _) (p := ⟨w.heap.size, 1, none⟩) (.inl rfl) _
           have hF4 := hF2.kept gS (by
             cases hb : blk Bt with
             | none => exact .inl rfl
             | some q => exact .inr (fun e => (hBf q hb).1 (by simpa using e)))
           have hQ4 := hQ2.kept gS (by
             cases hb : blk A2 with
             | none => exact .inl rfl
             | some q => exact .inr (fun e => (hne q hb).1 (by simpa using e)))
           have hBa4 : Blk ((w2.setCell ⟨w.heap.size, 0, none⟩ (.int .i64 (γ + 1))).setCell ⟨w.heap.size, 1, none⟩ (.int .i64 0)) w.heap.size 50 #[.int .i64 (γ + 1), .int .i64 0] := (hBa2.set_ 0 _).set_ 1 _
           have hBb4 : Blk ((w2.setCell ⟨w.heap.size, 0, none⟩ (.int .i64 (γ + 1))).setCell ⟨w.heap.size, 1, none⟩ (.int .i64 0)) (w.heap.size + 1) 50 #[.int .i64 tg, .int .i64 tr] := (hBb2.far (by simp) _).far (by simp) _
           have HS4 : Hid (((w2.setCell ⟨w.heap.size, 0, none⟩ (.int .i64 (γ + 1))).setCell ⟨w.heap.size, 1, none⟩ (.int .i64 0)).heap.size = w2.heap.size) := Lib.hid (by simp)
           have hbS : Below base w ((w2.setCell ⟨w.heap.size, 0, none⟩ (.int .i64 (γ + 1))).setCell ⟨w.heap.size, 1, none⟩ (.int .i64 0)) := ((hbw.trans ((Below.refl _ _).grown hg2 (by omega) (fun k hk => (hQt.row.lt k hk).1))).setCell (p := ⟨w.heap.size, 0, none⟩) hbase _).setCell (p := ⟨w.heap.size, 1, none⟩) hbase _
           have HNE := Lib.hid hne
           clear hne gS hF2 hQ2 hg2 ha2 hBa2 hBb2)
        | (at_builtin; refine app1m rfl _ _ rfl hF4 (γ + 1) rfl w2.heap.size HS4.out rfl ⟨by omega, by omega⟩ (by omega) (by rw [HS4.out]; omega) ?_
           intro B3 d3 w3 hF3 hb3 hg3 hb3'))
      have hg3' := only_trans (World.grownBy_alloc _ _ _) hg3
      have hQ3 := hQ4.kept hg3' (by
        cases hb : blk A2 with
        | none => exact .inl rfl
        | some q => exact .inr (fun e => (HNE.out q hb).2.2.2 e.symm))
      have hBa3 := hBa4.grown hg3' (fun e => absurd rfl (hBf _ e.symm).1)
      have hBb3 := hBb4.grown hg3' (fun e => absurd rfl (hBf _ e.symm).2)
      have hB3 : ∀ k, blk B3 = some k → blk Bt = some k ∨ k = w2.heap.size + 1 := fun k hk => by
        rcases hb3' with e | e
        · exact .inl (by rw [← e]; exact hk)
        · rw [hk, HS4.out] at e
          exact .inr (by simpa using e)
      have hm3 := cellI_of (w := w3) (g := w.heap.size) (z := γ + 1) ((hBa3.cell 0).trans rfl)
      have hap3 : Apart A2 B3 := fun k hk e => by
        have := HNE.out k hk
        rcases hB3 k e with e | e
        · exact this.2.2.2 e
        · omega
      have hAf3 : ∀ k, blk A2 = some k → k ≠ w.heap.size ∧ k ≠ w.heap.size + 1 := fun k hk => ⟨(HNE.out k hk).1, (HNE.out k hk).2.1⟩
      have hBf3 : ∀ k, blk B3 = some k → k ≠ w.heap.size ∧ k ≠ w.heap.size + 1 := fun k hk => by
        rcases hB3 k hk with e | e
        · exact hBf k e
        · omega
      have hbw3 := hbS.trans hb3
      clear hg3 hg3' hb3 hb3' hQ4 hF4 hBa4 hBb4 hbS hB3
      go_wp2_with fail
      go_roundw
      case rel => exact ⟨γ + 1, 0, A2, B3, nt + 1, c2, mt + 1, d3, _, _, rfl, rfl, hBa3, hBb3, hQ3, hF3, hap3, hAf3, hBf3, hbw3, by omega, by omega, ⟨by omega, by omega⟩, by omega, by omega, HE1⟩
      case measure => simp only [hm3, hm0]; omega
    · have hE1 := HE.out
      rw [betwP_end hlt, upto_none (by omega)] at hE1
      have HE1 := Lib.hid hE1
      have hok : PlOk ⟨tg, tr⟩ := ⟨⟨by simp only []; omega, by simp only []; omega⟩, HTR.out⟩
      clear HE hE1
      go_wp2_with (at_builtin; refine pushQ rfl _ _ rfl hQt ⟨tg, tr⟩ hok rfl wr.heap.size rfl rfl (nt + 1) rfl (by omega) (by omega) ?_; intro A2 c2 w2 hQ2 hg2 ha2)
      have hF2 := hFt.kept hg2 (by
        cases hb : blk Bt with
        | none => exact .inl rfl
        | some q => exact .inr (fun e => hapt q e.symm hb))
      have hap2 : Apart A2 Bt := fun k hk e => by
        rcases ha2 k hk with h | h
        · exact hapt k h e
        · have := (hFt.lt k e).2
          omega
      have hb2 := hbw.trans ((Below.refl _ _).grown hg2 (by omega) (fun k hk => (hQt.row.lt k hk).1))
      rw [HE1.out.1] at hQ2
      rw [show Ft = F ++ upto g tg by rw [← HE1.out.2, List.append_nil]] at hF2
      go_wp2_with fail
      go_ret2
      exact ⟨A2, nt + 1, c2, Bt, mt, dt, rfl, hQ2, hF2, hap2, hb2⟩
end
end Go.Proofs.YtkjcmppaapbabaaDoor
