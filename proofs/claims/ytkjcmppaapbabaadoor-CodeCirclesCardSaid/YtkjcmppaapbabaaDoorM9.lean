/-
  Contracts: the program's valid, read, Check. Conditions: the letters read.
-/
import Derived.Test.YtkjcmppaapbabaaDoorM8
import Derived.Test.YtkjcmppaapbabaaDoorOwnP
namespace Go.Proofs.YtkjcmppaapbabaaDoor
open Go.RowKit
def vcells (p : Nat) : Array Value := #[.func (.func 149) #[.pointer (some ⟨p, 0, none⟩)] #[], .func (.func 150) #[.pointer (some ⟨p, 0, none⟩)] #[], .func (.func 151) #[.pointer (some ⟨p, 0, none⟩)] #[], .func (.func 152) #[.pointer (some ⟨p, 0, none⟩)] #[], .func (.func 153) #[.pointer (some ⟨p, 0, none⟩)] #[]]
theorem fnInfo : (Tryd.prog.info? 28).map (fun i => (i.zero, i.size, i.bytes)) = some (some .nilFunc, 1, 8) := by kernel_rfl
theorem buildV (p : Nat) (w : World) : (Instr.buildSlice 138 5 #[(0, .func (.func 149) #[.pointer (some ⟨p, 0, none⟩)] #[]), (1, .func (.func 150) #[.pointer (some ⟨p, 0, none⟩)] #[]), (2, .func (.func 151) #[.pointer (some ⟨p, 0, none⟩)] #[]), (3, .func (.func 152) #[.pointer (some ⟨p, 0, none⟩)] #[]), (4, .func (.func 153) #[.pointer (some ⟨p, 0, none⟩)] #[])]).run Tryd.prog w = .ok (.slice (some ⟨w.heap.size, 0, none⟩) 5 5) (w.alloc (.cells (vcells p) 28)) := by
  obtain ⟨i0, hi, hz0, hz1, hz2⟩ := info_parts fnInfo
  refine run_buildSlice w _ _ 5 _ _ i0 _ Tryd.underlying138 hi hz0 (by rw [hz1]; omega) (by rw [hz1]; omega) ?_
  rw [hz1]
  kernel_rfl
/-- What stands behind i tests. -/
def VS (w : World) (p k : Nat) (A : Option Addr) (n c : Nat) (L : List Lt) (v2 v3 v4 v5 v6 : Value) (i : Nat) (wr : World) : Prop :=
  (i = 0 ∧ Dia wr p (k : Int) A n c v2 v3 v4 v5 v6) ∨ (i = 1 ∧ lettersP (k : Int) L = true ∧ Dia wr p (k : Int) A n c v2 v3 v4 v5 v6) ∨
  (i = 2 ∧ lettersP (k : Int) L = true ∧ (isP (la L 0) && decide (pN L n % 2 = 0)) = true ∧ Dia wr p (k : Int) A n c v2 v3 v4 v5 v6) ∨
  (i = 3 ∧ lettersP (k : Int) L = true ∧ (isP (la L 0) && decide (pN L n % 2 = 0)) = true ∧ ranksP L = true ∧ ∃ base g2 g3 g4 g6 s P C, w.heap.size ≤ base ∧ DiaR wr base p k A n c L v5 g2 g3 g4 g6 s P C) ∨
  (i = 4 ∧ lettersP (k : Int) L = true ∧ (isP (la L 0) && decide (pN L n % 2 = 0)) = true ∧ ranksP L = true ∧ crossP L = true ∧ ∃ base b g2 g3 g4 g6 s P C ids, w.heap.size ≤ base ∧ DiaF wr base p k A n c L b g2 g3 g4 g6 s P C ids) ∨
  (i = 5 ∧ validB2 (k : Int) L = true ∧ ∃ base b g2 g3 g4 g6 s P C ids, w.heap.size ≤ base ∧ DiaF wr base p k A n c L b g2 g3 g4 g6 s P C ids)
def ValidPost (w : World) (p k : Nat) (A : Option Addr) (n c : Nat) (L : List Lt) (v2 v3 v4 v5 v6 : Value) (e : Ending) (w' : World) : Prop :=
  e = .returned (.bool (decide (n = 0) || validB2 (k : Int) L)) ∧ w.grownBy w' (some p) ∧ (n = 0 → Dia w' p (k : Int) A n c v2 v3 v4 v5 v6) ∧
  (0 < n → validB2 (k : Int) L = true → ∃ base b g2 g3 g4 g6 s P C ids, w.heap.size ≤ base ∧ DiaF w' base p k A n c L b g2 g3 g4 g6 s P C ids)
theorem valid_no {K : Int} {L : List Lt} {n : Nat} (hL : L.length = n) (h : lettersP K L = false ∨ (isP (la L 0) && decide (pN L n % 2 = 0)) = false ∨ ranksP L = false ∨ crossP L = false ∨ flatB L = false) : validB2 K L = false := by
  unfold validB2
  rw [← letters_iff, hL]
  rcases h with h | h | h | h | h <;> rw [h] <;> simp
theorem valid_yes {K : Int} {L : List Lt} {n : Nat} (hL : L.length = n) (h1 : lettersP K L = true) (h2 : (isP (la L 0) && decide (pN L n % 2 = 0)) = true) (h3 : ranksP L = true) (h4 : crossP L = true) (h5 : flatB L = true) : validB2 K L = true := by
  unfold validB2
  rw [← letters_iff, hL, h1, h2, h3, h4, h5]
  rfl
theorem DiaR.grown {w w' : World} {base p k : Nat} {A : Option Addr} {n c : Nat} {L : List Lt} {v5 v5' : Value} {g2 g3 g4 g6 : Nat} {s : List Bool} {P C : List Int} (h : DiaR w base p k A n c L v5 g2 g3 g4 g6 s P C) (hb : p < base) (hg : w.grownBy w' (some p))
    (hd : Dia w' p (k : Int) A n c (.slice (some ⟨g2, 0, none⟩) n n) (.slice (some ⟨g3, 0, none⟩) (axL L).length (axL L).length) (.slice (some ⟨g4, 0, none⟩) n n) v5' (.slice (some ⟨g6, 0, none⟩) (k + 1) (k + 1))) : DiaR w' base p k A n c L v5' g2 g3 g4 g6 s P C :=
  ⟨hd, h.down.kept hg (by have := h.down.base; simp; omega), h.axis.kept hg (by have := h.axis.base; simp; omega), h.place.kept hg (by have := h.place.base; simp; omega), h.count.kept hg (by have := h.count.base; simp; omega), h.downs, h.places, h.counts⟩
set_option maxRecDepth 100000 in
set_option maxHeartbeats 6400000 in
theorem dia_valid (p k : Nat) (A : Option Addr) (n c : Nat) (L : List Lt) (v2 v3 v4 v5 v6 : Value) (w : World) (hA : Lets w A n L) (hn : n ≤ 400) (hk40 : k ≤ 40)
    (hpA : 0 < n → ∀ a, A = some a → p ≠ a.block) (hd : Dia w p (k : Int) A n c v2 v3 v4 v5 v6) :
    Calls Tryd.prog 122 #[.pointer (some ⟨p, 0, none⟩)] w (ValidPost w p k A n c L v2 v3 v4 v5 v6) := by
  have hLn := hA.len
  have hHL := Lib.hid hLn
  have c1 := hd.c1
  have hplt := hd.lt
  rcases Nat.eq_zero_or_pos n with h0 | h0
  · subst h0
    clear hLn
    go_enter Tryd.func122, Tryd.ntmps122
    go_wp2_with fail
    go_ret
    exact ⟨rfl, World.grownBy.refl _ _, fun _ => hd, fun h => by omega⟩
  · have h00 : ((n : Int) == 0) = false := by simp; omega
    have hpA := hpA h0
    have hdn : decide (n = 0) = false := by simp; omega
    have hbv := buildV p
    have hB0 : Blk (w.alloc (.cells (vcells p) 28)) w.heap.size 28 (vcells p) := Blk.new _ _ _
    have hD0 := hd.alloc (.cells (vcells p) 28)
    have hg0 : w.grownBy (w.alloc (.cells (vcells p) 28)) (some p) := World.grownBy_alloc _ _ _
    clear hLn
    unfold ValidPost
    rw [hdn, Bool.false_or]
    go_enter Tryd.func122, Tryd.ntmps122
    go_wp2_with fail
    go_loopw [4, 24] (fun _ v24 wr => ∃ i : Nat, i ≤ 5 ∧ v24 = .int .i64 i ∧ VS w p k A n c L v2 v3 v4 v5 v6 i wr ∧ w.grownBy wr (some p) ∧ Blk wr w.heap.size 28 (vcells p)) (fun _ v24 _ => 5 - (intOf v24).toNat)
    case atStart => exact ⟨0, by omega, rfl, .inl ⟨rfl, hD0⟩, hg0, hB0⟩
    case round =>
      obtain ⟨i, hi, rfl, hV, hg, hB⟩ := hrel
      clear hB0 hD0 hg0 hbv hd c1
      have hAr := hA.growG hg (fun a ha e => hpA a ha (by injection e))
      have hsz := hg.size
      have e0 : wr.cell? ⟨w.heap.size, 0, none⟩ = some (.func (.func 149) #[.pointer (some ⟨p, 0, none⟩)] #[]) := (hB.cell 0).trans rfl
      have e1 : wr.cell? ⟨w.heap.size, 1, none⟩ = some (.func (.func 150) #[.pointer (some ⟨p, 0, none⟩)] #[]) := (hB.cell 1).trans rfl
      have e2 : wr.cell? ⟨w.heap.size, 2, none⟩ = some (.func (.func 151) #[.pointer (some ⟨p, 0, none⟩)] #[]) := (hB.cell 2).trans rfl
      have e3 : wr.cell? ⟨w.heap.size, 3, none⟩ = some (.func (.func 152) #[.pointer (some ⟨p, 0, none⟩)] #[]) := (hB.cell 3).trans rfl
      have e4 : wr.cell? ⟨w.heap.size, 4, none⟩ = some (.func (.func 153) #[.pointer (some ⟨p, 0, none⟩)] #[]) := (hB.cell 4).trans rfl
      rcases hV with ⟨rfl, hD⟩ | ⟨rfl, t1, hD⟩ | ⟨rfl, t1, t2, hD⟩ | ⟨rfl, t1, t2, t3, base, g2, g3, g4, g6, s, P, C, hbase, hR⟩ | ⟨rfl, t1, t2, t3, t4, base, b, g2, g3, g4, g6, s, P, C, ids, hbase, hF⟩ | ⟨rfl, tv, base, b, g2, g3, g4, g6, s, P, C, ids, hbase, hF⟩
      · clear e1 e2 e3 e4
        cases hx : lettersP (k : Int) L with
        | true =>
          have HX := Lib.hid hx
          go_wp2_with fail
          refine (dia_letters p (k : Int) A n c L _ _ _ _ _ _ hAr hD).mono ?_
          rintro e w1 ⟨rfl, hb1⟩
          have hD1 := hD.next hb1
          have hB1 := hB.below hb1 hB.lt
          have hg1 := only_below hg hb1 hg.size
          rw [hx]
          clear hx hD hB hg
          go_wp2_with fail
          go_roundw
          case rel => exact ⟨1, by omega, by go_num, .inr (.inl ⟨rfl, HX.out, hD1⟩), hg1, hB1⟩
          case measure => simp [intOf]
        | false =>
          have HX := Lib.hid (valid_no hHL.out (.inl hx))
          go_wp2_with fail
          refine (dia_letters p (k : Int) A n c L _ _ _ _ _ _ hAr hD).mono ?_
          rintro e w1 ⟨rfl, hb1⟩
          have hg1 := only_below hg hb1 hg.size
          rw [hx]
          clear hx hD hB hg
          go_wp2_with fail
          go_ret
          exact ⟨ret_bool HX.out.symm, hg1, fun h => by omega, fun _ h => by rw [HX.out] at h; cases h⟩
      · clear e0 e2 e3 e4
        have T1 := Lib.hid t1
        clear t1
        cases hx : (isP (la L 0) && decide (pN L n % 2 = 0)) with
        | true =>
          have HX := Lib.hid hx
          go_wp2_with fail
          refine (dia_begins p (k : Int) A n c L _ _ _ _ _ _ hAr h0 hD).mono ?_
          rintro e w1 ⟨rfl, hb1⟩
          have hD1 := hD.next hb1
          have hB1 := hB.below hb1 hB.lt
          have hg1 := only_below hg hb1 hg.size
          rw [hx]
          clear hx hD hB hg
          go_wp2_with fail
          go_roundw
          case rel => exact ⟨2, by omega, by go_num, .inr (.inr (.inl ⟨rfl, T1.out, HX.out, hD1⟩)), hg1, hB1⟩
          case measure => simp [intOf]
        | false =>
          have HX := Lib.hid (valid_no (K := (k : Int)) hHL.out (.inr (.inl hx)))
          go_wp2_with fail
          refine (dia_begins p (k : Int) A n c L _ _ _ _ _ _ hAr h0 hD).mono ?_
          rintro e w1 ⟨rfl, hb1⟩
          have hg1 := only_below hg hb1 hg.size
          rw [hx]
          clear hx hD hB hg
          go_wp2_with fail
          go_ret
          exact ⟨ret_bool HX.out.symm, hg1, fun h => by omega, fun _ h => by rw [HX.out] at h; cases h⟩
      · clear e0 e1 e3 e4
        have T1 := Lib.hid t1
        have T2 := Lib.hid t2
        clear t1 t2
        cases hx : ranksP L with
        | true =>
          have HX := Lib.hid hx
          go_wp2_with fail
          refine (dia_ranks p k A n c L _ _ _ _ _ _ hAr hn hk40 T1.out hpA hD).mono ?_
          rintro e w1 ⟨rfl, hg1, hr⟩
          have hB1 := hB.grown hg1 (by simp; omega)
          have hg2 := only_trans hg hg1
          obtain ⟨g2, g3, g4, g6, s, P, C, hR⟩ := hr hx
          rw [hx]
          clear hx hD hB hg hr
          go_wp2_with fail
          go_roundw
          case rel => exact ⟨3, by omega, by go_num, .inr (.inr (.inr (.inl ⟨rfl, T1.out, T2.out, HX.out, _, g2, g3, g4, g6, s, P, C, hsz, hR⟩))), hg2, hB1⟩
          case measure => simp [intOf]
        | false =>
          have HX := Lib.hid (valid_no (K := (k : Int)) hHL.out (.inr (.inr (.inl hx))))
          go_wp2_with fail
          refine (dia_ranks p k A n c L _ _ _ _ _ _ hAr hn hk40 T1.out hpA hD).mono ?_
          rintro e w1 ⟨rfl, hg1, hr⟩
          have hg2 := only_trans hg hg1
          rw [hx]
          clear hx hD hB hg hr
          go_wp2_with fail
          go_ret
          exact ⟨ret_bool HX.out.symm, hg2, fun h => by omega, fun _ h => by rw [HX.out] at h; cases h⟩
      · clear e0 e1 e2 e4
        have T1 := Lib.hid t1
        have T2 := Lib.hid t2
        have T3 := Lib.hid t3
        clear t1 t2 t3
        have hD := hR.dia
        cases hx : crossP L with
        | true =>
          have HX := Lib.hid hx
          go_wp2_with fail
          refine (dia_crossings p (k : Int) A n c L _ _ _ _ _ _ hAr hn hpA hD).mono ?_
          rintro e w1 ⟨rfl, hg1, hr⟩
          have hB1 := hB.grown hg1 (by simp; omega)
          have hg2 := only_trans hg hg1
          obtain ⟨b, ids, hbb, hD1, hV1⟩ := hr hx
          have hR1 := hR.grown (by omega) hg1 hD1
          have hL1 := hAr.growG hg1 (fun a ha e => hpA a ha (by injection e))
          have hF1 : DiaF w1 base p k A n c L b g2 g3 g4 g6 s P C ids := ⟨hR1, hV1, hL1, good_of_parts (by rw [hHL.out]; exact h0) (by have := T2.out; simp at this; exact this.1) (by have := T2.out; simp at this; rw [hHL.out]; exact this.2) T1.out T3.out HX.out, hn⟩
          rw [hx]
          clear hx hD hB hg hr hD1 hV1 hR1 hL1 hR
          go_wp2_with fail
          go_roundw
          case rel => exact ⟨4, by omega, by go_num, .inr (.inr (.inr (.inr (.inl ⟨rfl, T1.out, T2.out, T3.out, HX.out, base, b, g2, g3, g4, g6, s, P, C, ids, hbase, hF1⟩)))), hg2, hB1⟩
          case measure => simp [intOf]
        | false =>
          have HX := Lib.hid (valid_no (K := (k : Int)) hHL.out (.inr (.inr (.inr (.inl hx)))))
          go_wp2_with fail
          refine (dia_crossings p (k : Int) A n c L _ _ _ _ _ _ hAr hn hpA hD).mono ?_
          rintro e w1 ⟨rfl, hg1, hr⟩
          have hg2 := only_trans hg hg1
          rw [hx]
          clear hx hD hB hg hr hR
          go_wp2_with fail
          go_ret
          exact ⟨ret_bool HX.out.symm, hg2, fun h => by omega, fun _ h => by rw [HX.out] at h; cases h⟩
      · clear e0 e1 e2 e3
        have T1 := Lib.hid t1
        have T2 := Lib.hid t2
        have T3 := Lib.hid t3
        have T4 := Lib.hid t4
        clear t1 t2 t3 t4
        cases hx : flatB L with
        | true =>
          have HX := Lib.hid (valid_yes hHL.out T1.out T2.out T3.out T4.out hx)
          go_wp2_with fail
          refine (dia_flat base p k A n c L b g2 g3 g4 g6 s P C ids _ hF).mono ?_
          rintro e w1 ⟨rfl, hb1⟩
          have hF1 := hF.next hb1
          have hB1 := hB.below hb1 hB.lt
          have hg1 := only_below hg hb1 hg.size
          rw [hx]
          clear hx hB hg hF
          go_wp2_with fail
          go_roundw
          case rel => exact ⟨5, by omega, by go_num, .inr (.inr (.inr (.inr (.inr ⟨rfl, HX.out, base, b, g2, g3, g4, g6, s, P, C, ids, hbase, hF1⟩)))), hg1, hB1⟩
          case measure => simp [intOf]
        | false =>
          have HX := Lib.hid (valid_no (K := (k : Int)) hHL.out (.inr (.inr (.inr (.inr hx)))))
          go_wp2_with fail
          refine (dia_flat base p k A n c L b g2 g3 g4 g6 s P C ids _ hF).mono ?_
          rintro e w1 ⟨rfl, hb1⟩
          have hg1 := only_below hg hb1 hg.size
          rw [hx]
          clear hx hB hg hF
          go_wp2_with fail
          go_ret
          exact ⟨ret_bool HX.out.symm, hg1, fun h => by omega, fun _ h => by rw [HX.out] at h; cases h⟩
      · have TV := Lib.hid tv
        clear tv e0 e1 e2 e3 e4
        go_wp2_with fail
        go_ret
        exact ⟨ret_bool TV.out.symm, hg, fun h => by omega, fun _ _ => ⟨base, b, g2, g3, g4, g6, s, P, C, ids, hbase, hF⟩⟩
end Go.Proofs.YtkjcmppaapbabaaDoor
