/-
  Contracts: the document's Equal of codes; circle. Conditions: the letters read.
-/
import Derived.Test.YtkjcmppaapbabaaDoorN1
import Derived.Laws.Cover2
namespace Go.Proofs.YtkjcmppaapbabaaDoor
open Go.RowKit
def ltB (x y : Lt) : Bool := x.kind == y.kind && x.gate == y.gate && x.rank == y.rank && x.id == y.id && x.sign == y.sign && x.over == y.over
theorem ltB_iff {x y : Lt} : ltB x y = true ↔ x = y := by
  cases x; cases y
  simp [ltB, and_assoc]
set_option maxRecDepth 100000 in
theorem eqLt (x y : Lt) (w : World) : (Op.equalIn 10000 46 (.agg #[.int .i64 x.kind, .int .i64 x.gate, .int .i64 x.rank, .int .i64 x.id, .int .i64 x.sign, .bool x.over]) (.agg #[.int .i64 y.kind, .int .i64 y.gate, .int .i64 y.rank, .int .i64 y.id, .int .i64 y.sign, .bool y.over])).run Tryd.prog w = .ok (ltB x y) w := by
  have u3 := Tryd.underlying3
  have a3 := Tryd.isAgg3
  have z3 := Tryd.sizeOf3
  have u4 := Tryd.underlying4
  have a4 := Tryd.isAgg4
  have z4 := Tryd.sizeOf4
  have u5 := Tryd.underlying44
  have a5 := Tryd.isAgg44
  have z5 := Tryd.sizeOf44
  have hS : Tryd.prog.underlying 46 = some (.struct (Tryd.prog.fieldsOf 46)) := by kernel_rfl
  have hp : Tryd.prog.stoodInHeld 46 = false := by kernel_rfl
  rw [show (10000 : Nat) = 9999 + 1 from rfl, run_equalIn_agg w 9999 46 _ _ hS hp]
  simp only [Program.fieldsOf, Tryd.underlying46]
  go_simp
  unfold ltB
  by_cases h1 : x.kind = y.kind <;> by_cases h2 : x.gate = y.gate <;> by_cases h3 : x.rank = y.rank <;> by_cases h4 : x.id = y.id <;> by_cases h5 : x.sign = y.sign <;> by_cases h6 : x.over = y.over <;> simp [h1, h2, h3, h4, h5, h6]
theorem la_get {L : List Lt} {i : Nat} (h : i < L.length) : L[i]? = some (la L i) := by unfold la; rw [List.getElem?_eq_getElem h]; rfl
set_option maxRecDepth 100000 in
set_option maxHeartbeats 3200000 in
theorem cref_Equal (K1 K2 : Int) (A B : Option Addr) (n c m d : Nat) (L M : List Lt) (w : World) (hA : Lets w A n L) (hB : Lets w B m M) :
    Calls Tryd.prog 34 #[.agg #[.int .i64 K1, .slice A n c], .agg #[.int .i64 K2, .slice B m d]] w fun e w' => e = .returned (.bool (K1 == K2 && decide (L = M))) ∧ Below w.heap.size w w' := by
  have hle := hA.le
  have hle2 := hB.le
  have hLn := hA.len
  have hMn := hB.len
  have hb2 : Below w.heap.size w ((w.alloc (.cells #[.int .i64 K1, .slice A n c] 24)).alloc (.cells #[.int .i64 K2, .slice B m d] 24)) := ((Below.refl _ _).alloc (Nat.le_refl _) _).alloc (by simp) _
  by_cases hK : K1 = K2
  · have hKb : (K1 != K2) = false := by simpa using hK
    by_cases hnm : n = m
    · have hnb : ((n : Int) != (m : Int)) = false := by simp; omega
      have HHK := Lib.hid (show (K1 == K2 && decide (L = M)) = decide (L = M) by simp [hK])
      have HN := Lib.hid hnm
      have HL := Lib.hid hLn
      have HM := Lib.hid hMn
      clear hK hnm hLn hMn
      have bB : Blk ((w.alloc (.cells #[.int .i64 K1, .slice A n c] 24)).alloc (.cells #[.int .i64 K2, .slice B m d] 24)) (w.heap.size + 1) 24 #[.int .i64 K2, .slice B m d] := heap_alloc2_new w _ _
      have bA := (Blk.new w 24 #[.int .i64 K1, .slice A n c]).alloc (.cells #[.int .i64 K2, .slice B m d] 24)
      go_enter Tryd.func34, Tryd.ntmps34
      go_wp2_with fail
      generalize (w.alloc (.cells #[.int .i64 K1, .slice A n c] 24)).alloc (.cells #[.int .i64 K2, .slice B m d] 24) = W at hb2 bA bB ⊢
      have hst : Hid (∀ j, j < 0 → la L j = la M j) := Lib.hid (fun j hj => by omega)
      go_loopw [5] (fun v5 wr => ∃ i : Nat, i ≤ n ∧ v5 = .int .i64 i ∧ Below W.heap.size W wr ∧ Hid (∀ j, j < i → la L j = la M j)) (fun v5 _ => n - (intOf v5).toNat)
      case atStart => exact ⟨0, Nat.zero_le _, rfl, Below.refl _ _, hst⟩
      case round =>
        obtain ⟨i, hi, rfl, hbr, HS⟩ := hrel
        clear hst
        have e1 : wr.cell? ⟨w.heap.size, 1, none⟩ = some (.slice A n c) := ((bA.below hbr bA.lt).cell 1).trans rfl
        have e2 : wr.cell? ⟨w.heap.size + 1, 1, none⟩ = some (.slice B m d) := ((bB.below hbr bB.lt).cell 1).trans rfl
        have hbw := below_chain hb2 hbr hb2.size
        by_cases hlt : i < n
        · obtain ⟨g1, o1, rfl, hg1, hx, _⟩ := (hA.below hbw).at_ hlt
          obtain ⟨g2, o2, rfl, hg2, hy, _⟩ := (hB.below hbw).at_ (k := i) (by have := HN.out; omega)
          obtain ⟨x0, x1, x2, x3, x4, x5⟩ := hx
          obtain ⟨y0, y1, y2, y3, y4, y5⟩ := hy
          have i0 : (0 : Int) ≤ (i : Int) := by omega
          have i1 : (i : Int) < (n : Int) := by omega
          have i2 : (i : Int) < (m : Int) := by have := HN.out; omega
          have heq := fun w => eqLt (la L i) (la M i) w
          cases hq : ltB (la L i) (la M i) with
          | true =>
            have HS1 := Lib.hid (show ∀ j, j < i + 1 → la L j = la M j from fun j hj => by
              rcases Nat.decEq j i with e | e
              · exact HS.out j (by omega)
              · subst e; exact ltB_iff.1 hq)
            clear HS
            go_wp2_with fail
            go_quiet (fail)
            go_wp2_with fail
            go_roundw
            case rel => exact ⟨i + 1, by omega, by go_num, below_drewN hbr _, HS1⟩
            case measure => simp [intOf]; omega
          | false =>
            have hf := Lib.hid (show decide (L = M) = false by
              simp only [decide_eq_false_iff_not]
              intro e
              rw [e] at hq
              have := ltB_iff (x := la M i) (y := la M i)
              rw [this.2 rfl] at hq
              cases hq)
            clear HS
            go_wp2_with fail
            go_quiet (fail)
            go_wp2_with fail
            go_ret
            exact ⟨ret_bool (by rw [HHK.out, hf.out]), below_drewN hbw _⟩
        · have hin : i = n := by omega
          have hf := Lib.hid (show decide (L = M) = true by
            simp only [decide_eq_true_eq]
            apply List.ext_getElem?
            intro j
            by_cases hj : j < n
            · rw [la_get (by rw [HL.out]; exact hj), la_get (by rw [HM.out, ← HN.out]; exact hj), HS.out j (by omega)]
            · rw [List.getElem?_eq_none (by rw [HL.out]; omega), List.getElem?_eq_none (by rw [HM.out, ← HN.out]; omega)])
          have i1 : ¬ (i : Int) < (n : Int) := by omega
          clear HS hin
          go_wp2_with fail
          go_ret
          exact ⟨ret_bool (by rw [HHK.out, hf.out]), hbw⟩
    · have hnb : ((n : Int) != (m : Int)) = true := by simp; omega
      have hf := Lib.hid (show (K1 == K2 && decide (L = M)) = false by
        have : L ≠ M := fun e => hnm (by rw [← hLn, ← hMn, e])
        simp [this])
      clear hK hnm hLn hMn
      go_enter Tryd.func34, Tryd.ntmps34
      go_wp2_with fail
      go_ret
      exact ⟨ret_bool hf.out.symm, hb2⟩
  · have hKb : (K1 != K2) = true := by simpa using hK
    have hf := Lib.hid (show (K1 == K2 && decide (L = M)) = false by simp [hK])
    clear hK hLn hMn
    go_enter Tryd.func34, Tryd.ntmps34
    go_wp2_with fail
    go_ret
    exact ⟨ret_bool hf.out.symm, hb2⟩
end Go.Proofs.YtkjcmppaapbabaaDoor
