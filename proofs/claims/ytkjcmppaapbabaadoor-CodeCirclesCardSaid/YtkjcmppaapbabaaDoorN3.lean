/-
  Contracts: circle; slices.Clone of letters. Conditions: the letters read.
-/
import Derived.Test.YtkjcmppaapbabaaDoorN2
import Derived.Lib.SliceRun
namespace Go.Proofs.YtkjcmppaapbabaaDoor
open Go.RowKit
theorem law_passE (g r : Int) (w : World) :
    Calls Tryd.prog 35 #[.int .i64 g, .int .i64 r] w fun e w' => e = .returned (.agg #[.int .i64 1, .int .i64 g, .int .i64 r, .int .i64 0, .int .i64 0, .bool false]) ∧ Below w.heap.size w w' := law_pass g r w
theorem law_crossE (i s : Int) (o : Bool) (w : World) :
    Calls Tryd.prog 79 #[.int .i64 i, .bool o, .int .i64 s] w fun e w' => e = .returned (.agg #[.int .i64 2, .int .i64 0, .int .i64 0, .int .i64 i, .int .i64 s, .bool o]) ∧ Below w.heap.size w w' := law_cross i s o w
theorem ok01 : ∀ x ∈ [lpass 0 1, lpass 1 1], LtOk x := by
  intro x hx
  simp only [List.mem_cons, List.not_mem_nil, or_false] at hx
  rcases hx with rfl | rfl <;> exact ltok_pass (by unfold I64; omega) (by unfold I64; omega)
set_option maxHeartbeats 1600000 in
theorem law_circle (w : World) :
    Calls Tryd.prog 68 #[] w fun e w' => ∃ g, e = .returned (.agg #[.int .i64 2, .slice (some ⟨g, 0, none⟩) 2 2]) ∧ OwnL w' w.heap.size (some ⟨g, 0, none⟩) 2 2 [lpass 0 1, lpass 1 1] ∧ Below w.heap.size w w' := by
  have hbl := fun w => buildL2 (lpass 0 1) (lpass 1 1) w
  simp only [ltV, lpass] at hbl
  have hbc := fun b w => build_code2 2 (some ⟨b, 0, none⟩) 2 2 w
  have hb1 : Below w.heap.size w (w.alloc (.cells #[.int .i64 0, .slice none 0 0] 24)) := (Below.refl _ _).alloc (Nat.le_refl _) _
  have hB1 := Blk.new w 24 #[.int .i64 0, .slice none 0 0]
  go_enter Tryd.func68, Tryd.ntmps68
  go_wp2_with fail
  refine (law_passE 0 1 _).mono ?_
  rintro e w2 ⟨rfl, hb2⟩
  have hB2 := hB1.below hb2 hB1.lt
  have hbw2 := below_chain hb1 hb2 hb1.size
  clear hb1 hb2 hB1
  go_wp2_with fail
  refine (law_passE 1 1 _).mono ?_
  rintro e w3 ⟨rfl, hb3⟩
  have hB3 := hB2.below hb3 hB2.lt
  have hbw3 := below_chain hbw2 hb3 hbw2.size
  clear hbw2 hb3 hB2
  have x0 : w3.cell? ⟨w.heap.size, 0, none⟩ = some (.int .i64 0) := (hB3.cell 0).trans rfl
  have x1 : w3.cell? ⟨w.heap.size, 1, none⟩ = some (.slice none 0 0) := (hB3.cell 1).trans rfl
  have f0 := hB3.frozen 0
  have f1 := hB3.frozen 1
  have hlt := hB3.lt
  have hR : Blk ((w3.setCell ⟨w.heap.size, 0, none⟩ (.int .i64 2)).setCell ⟨w.heap.size, 1, none⟩ (.slice (some ⟨w3.heap.size, 0, none⟩) 2 2)) w.heap.size 24 #[.int .i64 2, .slice (some ⟨w3.heap.size, 0, none⟩) 2 2] := (hB3.set_ 0 _).set_ 1 _
  have hbS := (hbw3.setCell (p := ⟨w.heap.size, 0, none⟩) (Nat.le_refl _) (.int .i64 2)).setCell (p := ⟨w.heap.size, 1, none⟩) (Nat.le_refl _) (.slice (some ⟨w3.heap.size, 0, none⟩) 2 2)
  have hsz : ((w3.setCell ⟨w.heap.size, 0, none⟩ (.int .i64 2)).setCell ⟨w.heap.size, 1, none⟩ (.slice (some ⟨w3.heap.size, 0, none⟩) 2 2)).heap.size = w3.heap.size := by simp
  have HSZ := Lib.hid hsz
  have hsw := hbw3.size
  clear hB3 hbw3 hsz
  go_wp2_with fail
  (try simp only [Exit.inBlock, Exit.then])
  have hN := Blk.new ((w3.setCell ⟨w.heap.size, 0, none⟩ (.int .i64 2)).setCell ⟨w.heap.size, 1, none⟩ (.slice (some ⟨w3.heap.size, 0, none⟩) 2 2)) 46 ([lpass 0 1, lpass 1 1].flatMap ltC).toArray
  rw [HSZ.out] at hN
  refine ret_cellB rfl rfl (hR.alloc _) Tryd.underlying24 rfl (by kernel_rfl) rfl ?_
  exact ⟨w3.heap.size, rfl, OwnL.block hN hsw ok01 (by simp), hbS.alloc (by rw [HSZ.out]; exact hsw) _⟩
theorem OwnL.made {w : World} {base : Nat} (hb : base ≤ w.heap.size) : OwnL (w.alloc (.cells #[] 46)) base (some ⟨w.heap.size, 0, none⟩) 0 0 [] :=
  ⟨⟨by simp, Nat.le_refl _, fun e => (by cases e), fun ad ha => by
    injection ha with ha
    subst ha
    exact ⟨rfl, hb, by simp, fun j u hu => (by simp at hu), fun j hj => by omega⟩⟩, by simp, by omega⟩
theorem Lets.src {w : World} {A : Option Addr} {n : Nat} {L : List Lt} (h : Lets w A n L) : Src w 6 A n (L.flatMap ltC) := by
  refine ⟨by rw [flat_len ltC 6 ltC_len, h.len], fun hn => ?_⟩
  obtain ⟨g, o, rfl, hg, hc⟩ := h.2.2.2 hn
  refine ⟨_, rfl, hg, fun j u hu => ?_⟩
  have hjl : j < L.length * 6 := by
    have := (List.getElem?_eq_some_iff.1 hu).1
    rwa [flat_len ltC 6 ltC_len] at this
  have hx : L[j / 6]? = some (L[j / 6]'(by omega)) := List.getElem?_eq_getElem _
  have hf := flat_at ltC 6 ltC_len L (j / 6) (j % 6) _ hx (Nat.mod_lt _ (by omega))
  rw [show j / 6 * 6 + j % 6 = j by omega, hu] at hf
  have ha := hc (j / 6) _ hx
  have hadd : (⟨g, o, none⟩ : Addr).add j = ⟨g, o + j, none⟩ := Addr.add_lit _ _ _
  rw [hadd]
  have e : j = j / 6 * 6 + j % 6 := by omega
  generalize L[j / 6]'(by omega) = x at *
  rcases (show j % 6 = 0 ∨ j % 6 = 1 ∨ j % 6 = 2 ∨ j % 6 = 3 ∨ j % 6 = 4 ∨ j % 6 = 5 by omega) with h6 | h6 | h6 | h6 | h6 | h6 <;> rw [h6] at hf e <;> simp [ltC] at hf <;> subst hf
  · rw [e]; exact ha.kind
  · rw [e]; exact ha.gate
  · rw [e]; exact ha.rank
  · rw [e]; exact ha.id
  · rw [e]; exact ha.sign
  · rw [e]; exact ha.over
/-- 'append(own, letters...)'. -/
theorem pushLs {w : World} {ops : Array Oper} {rest : List Oper} {o : Oper} {a : Act} {Q' : Exit → Act → World → Prop} (hgd : o.guard = none) (s x : Operand)
    (ho : o.op = .call { callee := .builtin .append, args := #[s, x], argTypes := #[22, 22] })
    {base : Nat} {A : Option Addr} {n c : Nat} {L : List Lt} (hst : OwnL w base A n c L) {B : Option Addr} {m d : Nat} {M : List Lt} (hM : Lets w B m M) (hs : a.eval s = .slice A n c) (hx : a.eval x = .slice B m d)
    (N : Nat) (hN : n + m = N) (hn : N ≤ 2932031007402) (hbase : base ≤ w.heap.size)
    (h : ∀ A' c' w', OwnL w' base A' N c' (L ++ M) → w.grownBy w' (blk A) → (∀ k, blk A' = some k → blk A = some k ∨ w.heap.size ≤ k) → wpList Tryd.prog ops Q' rest (a.put o.dst (.slice A' N c')) w') :
    wpList Tryd.prog ops Q' (o :: rest) a w := by
  obtain ⟨i0, hi, hz0, hz1, hz2⟩ := info_parts ltInfo
  refine appR hgd s x 22 ho 46 i0 _ 6 48 Tryd.underlying22 hi hz0 hz1 hz2 rfl (by decide) hst.row hM.src
    (by
      intro u hu
      obtain ⟨q, _, hq⟩ := List.mem_flatMap.1 hu
      simp [ltC] at hq
      rcases hq with rfl | rfl | rfl | rfl | rfl | rfl <;> rfl) hs hx N hN (by unfold maxLen; omega) (by omega) hbase ?_
  intro A' c' w' h1 h2 h3 _
  refine h A' c' w' ⟨by rw [List.flatMap_append]; exact h1, fun y hy => ?_, hn⟩ h2 h3
  rcases List.mem_append.1 hy with hy | hy
  · exact hst.fits y hy
  · exact hM.fits y hy
set_option maxHeartbeats 400000 in
theorem clone_letters (A : Option Addr) (n c : Nat) (L : List Lt) (w : World) (hA : Lets w A n L) :
    Calls Tryd.prog 88 #[.slice A n c] w fun e w' => ∃ A' c', e = .returned (.slice A' n c') ∧ OwnL w' w.heap.size A' n c' L ∧ Below w.heap.size w w' := by
  have hle := hA.le
  have hnil := fun (w : World) (a : Option Addr) (n c : Nat) => Lib.run_eql_slice_nil (P := Tryd.prog) w 22 46 a n c 0 0 Tryd.underlying22
  rcases A with _ | ad
  · have hn : n = 0 := by
      rcases Nat.eq_zero_or_pos n with h0 | h0
      · exact h0
      · obtain ⟨g, o, h, _⟩ := hA.2.2.2 h0
        cases h
    subst hn
    have hL : L = [] := List.eq_nil_of_length_eq_zero hA.len
    subst hL
    go_enter Tryd.func88, Tryd.ntmps88
    go_wp2_with fail
    go_ret
    exact ⟨_, _, rfl, OwnL.nil _ _, Below.refl _ _⟩
  · have hb0 := (Below.refl w.heap.size w).alloc (Nat.le_refl _) (.cells #[] 46)
    go_enter Tryd.func88, Tryd.ntmps88
    go_wp2_with (at_builtin; refine pushLs rfl _ _ rfl (OwnL.made (Nat.le_refl _)) (hA.alloc (.cells #[] 46)) rfl rfl n (by omega) (by omega) hb0.size ?_; intro A1 c1 w1 hown hg hl)
    have hbw := hb0.trans (hown.row.lt |> fun _ => (OwnL.made (w := w) (Nat.le_refl w.heap.size)).row.belowOf hg hb0.size)
    go_wp2_with fail
    go_ret
    exact ⟨_, _, rfl, by simpa using hown, hbw⟩
end Go.Proofs.YtkjcmppaapbabaaDoor
