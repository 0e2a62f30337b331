/-
  Append of one int to a slice of the call's own, told with the address: in place, or in a new block. No condition.
-/
import Derived.Test.YtpdkonpnhalecaaDoorOwn
import Derived.ArgAppend
namespace Go.Proofs.YtpdkonpnhalecaaDoor
open Go.RowKit
theorem Own.shrink {w : World} {base : Nat} {A : Option Addr} {n c : Nat} {L : List Int} {x : Int} (h : Own w base A (n + 1) c (L ++ [x])) : Own w base A n c L := by
  have hl : L.length = n := by have := h.len; simp at this; exact this
  refine ⟨⟨by simp [hl], ?_⟩, hl, by have := h.le; omega, fun y hy => h.fits y (List.mem_append_left _ hy)⟩
  rcases h.row.2 with ⟨_, h0⟩ | ⟨g, cap, cur, hv, hb, hg, hnc, hcm, hcs, htake⟩
  · omega
  · simp only [Value.slice.injEq, true_and] at hv
    obtain ⟨rfl, rfl⟩ := hv
    refine .inr ⟨g, c, cur, rfl, hb, hg, by omega, hcm, hcs, ?_⟩
    have h2 := congrArg (List.take n) htake
    rw [List.take_take, show min n ((n + 1) * 1) = n by omega] at h2
    rw [Nat.mul_one, h2, List.map_append, List.take_append_of_le_length (by simp [hl]), List.take_of_length_le (by simp [hl])]
theorem run_appX {w : World} {base : Nat} {A : Option Addr} {n c : Nat} {L : List Int} (hown : Own w base A n c L) {ad : Addr} {cc : Nat} {x : Int} (hcell : w.cell? ad = some (.int .i64 x)) (hx : I64 x)
    (hn : n < 17592186044416) (hbase : base ≤ w.heap.size) :
    ∃ A' c' w', (Builtin.append_ #[28, 28] 28 #[.slice A n c, .slice (some ad) 1 cc]).run Tryd.prog w = .ok (.slice A' (n + 1) c') w' ∧ Own w' base A' (n + 1) c' (L ++ [x]) ∧ Below base w w' ∧ w.grownBy w' (blk A) ∧ ((A' = A ∧ c' = c) ∨ (blk A' = some w.heap.size ∧ Own w' base A n c L)) := by
  obtain ⟨i0, hi, hz0, hz1, hz2⟩ := info_parts intInfo
  have hnews : ∀ j u, ([Value.int .i64 x] : List Value)[j]? = some u → w.cell? (ad.add j) = some u := by
    intro j u hj
    match j, hj with
    | 0, hj => simp at hj; subst hj; rw [Addr.add_zero']; exact hcell
  have hI : Ints w (some ad) 1 [x] := ⟨rfl, by omega, fun z hz => by simp at hz; subst hz; exact hx, fun _ => ⟨ad, rfl, World.block_lt_of_cell? w _ hcell, fun j y hy => by
    match j, hy with
    | 0, hy => simp at hy; subst hy; rw [Addr.add_zero']; exact hcell⟩⟩
  obtain ⟨A', c', w', hrun, h1, h2, h3, h4⟩ := run_appS (d := cc) hown hI (by omega) hbase
  refine ⟨A', c', w', hrun, h1, h2, h3, ?_⟩
  obtain ⟨g', hA', _, _⟩ := h1.form (by omega)
  subst hA'
  rcases hown.row.2 with ⟨hv, h0⟩ | ⟨g, cap, cur, hv, hb, hg, hnc, hcm, hcs, htake⟩
  · simp only [Value.slice.injEq] at hv
    obtain ⟨rfl, rfl, rfl⟩ := hv
    obtain rfl : L = [] := List.eq_nil_of_length_eq_zero hown.len
    right
    rcases h4 with h4 | h4
    · cases h4
    · exact ⟨h4, Own.nil _ _⟩
  · simp only [Value.slice.injEq, true_and] at hv
    obtain ⟨rfl, rfl⟩ := hv
    by_cases hr : n + 1 ≤ c
    · left
      have hcl : (w.cell? ⟨g, 0 + n * i0.size + 0, none⟩).isSome = true := by
        rw [hz1, Nat.zero_add, Nat.add_zero, Nat.mul_one, cell_of_row w g n cur _ _ hg]
        rw [Array.getElem?_eq_getElem (by omega)]
        rfl
      have hfz : w.frozen? ⟨g, 0 + n * i0.size + 0, none⟩ = false := by simp [World.frozen?, hg]
      have hrun2 := run_append_room_cells (P := Tryd.prog) (w := w) 28 28 3 i0 Tryd.underlying28 hi g 0 n c ad 1 cc [.int .i64 x] (by rw [hz1]; rfl) hnews (by intro u hu; simp at hu; subst hu; rfl) hr
        (fun j hj => by have : j = 0 := by simpa using hj
                        subst this; exact hcl) (fun j hj => by have : j = 0 := by simpa using hj
                                                               subst this; exact hfz)
      rw [hrun] at hrun2
      simp only [Result.ok.injEq, Value.slice.injEq, true_and] at hrun2
      exact hrun2.1
    · right
      obtain ⟨v', w2, hrun2, hown2, hg2⟩ := run_append_arg_grows (P := Tryd.prog) (w := w) 28 28 3 i0 (.int .i64 0) 1 8 Tryd.underlying28 hi hz0 hz1 hz2 rfl (by decide) ⟨g, 0, none⟩ n c (L.map (Value.int .i64)) (by simp [hown.len])
        (fun j u hu => by
          rw [List.getElem?_map] at hu
          obtain ⟨y, hy, rfl⟩ := Option.map_eq_some_iff.1 hu
          rw [Addr.add_lit, Nat.zero_add]
          exact hown.cell hy) ad 1 cc [.int .i64 x] rfl hnews (by omega) (by unfold maxLen; omega) (by omega)
      rw [hrun] at hrun2
      simp only [Result.ok.injEq] at hrun2
      obtain ⟨hv2, rfl⟩ := hrun2
      subst hv2
      obtain ⟨g2, cap2, hv2, hb2, _⟩ := hown2.form (by omega)
      simp only [Value.slice.injEq, Option.some.injEq] at hv2
      have h5 := (Array.getElem?_eq_some_iff.1 hg).1
      have h6 : g' = g2 := by have := hv2.1; simpa using this
      refine ⟨?_, hown.kept hg2 (.inr (by simp [blk]))⟩
      rcases h4 with h4 | h4
      · simp only [blk, Option.some.injEq] at h4
        omega
      · exact h4
theorem stepX {w : World} {ops : Array Oper} {o : Oper} {a : Act} {K : Act → World → Prop} {Q : Exit → Act → World → Prop} {E : Prop} (hgd : o.guard = none) (s x : Operand)
    (ho : o.op = .call { callee := .builtin .append, args := #[s, x], argTypes := #[28, 28] }) (hty : o.type = 28)
    {base : Nat} {A : Option Addr} {n c : Nat} {L : List Int} (hown : Own w base A n c L) {ad : Addr} {cc : Nat} {y : Int} (hs : a.eval s = .slice A n c)
    (hx : a.eval x = .slice (some ad) 1 cc) (hcell : w.cell? ad = some (.int .i64 y)) (hy : I64 y) (hn : n < 17592186044416) (hbase : base ≤ w.heap.size)
    (h : ∀ A' c' w', Own w' base A' (n + 1) c' (L ++ [y]) → Below base w w' → w.grownBy w' (blk A) → ((A' = A ∧ c' = c) ∨ (blk A' = some w.heap.size ∧ Own w' base A n c L)) → K (a.put o.dst (.slice A' (n + 1) c')) w') :
    if Region.wanted o (yielded ops a.tmps) = true then Oper.wp Tryd.prog o a w K Q else E := by
  have hw : Region.wanted o (yielded ops a.tmps) = true := by simp [Region.wanted, hgd]
  rw [if_pos hw]
  obtain ⟨A', c', w', hrun, h1, h2, h3, h4⟩ := run_appX (cc := cc) hown hcell hy hn hbase
  unfold Oper.wp execOp
  simp only [ho, hty, resolve, invoke, builtin, Sem.run_bind, Sem.run_pure, Result.andThen_ok, List.map_toArray, List.map_cons, List.map_nil, hs, hx, hrun]
  exact h A' c' w' h1 h2 h3 h4
end Go.Proofs.YtpdkonpnhalecaaDoor
