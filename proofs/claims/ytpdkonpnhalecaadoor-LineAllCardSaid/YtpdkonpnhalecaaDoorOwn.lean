/-
  A slice of ints that the call itself has made: the word 'Own', and the laws of append in that word. No condition.
-/
import Derived.Test.YtpdkonpnhalecaaDoorBase
namespace Go.Proofs.YtpdkonpnhalecaaDoor
open Go.RowKit

theorem intInfo : (Tryd.prog.info? 3).map (fun i => (i.zero, i.size, i.bytes)) = some (some (.int .i64 0), 1, 8) := by kernel_rfl

/-- The slice '.slice A n c' lies at the head of a block of the call's own (from base on), or is nil; it reads as L. -/
structure Own (w : World) (base : Nat) (A : Option Addr) (n c : Nat) (L : List Int) : Prop where
  row : w.ownsRow base 3 1 (.slice A n c) n (L.map (Value.int .i64))
  len : L.length = n
  le : n ≤ 17592186044416
  fits : ∀ x ∈ L, I64 x

def blk : Option Addr → Option Nat
  | some a => some a.block
  | none => none
theorem blk_own (A : Option Addr) (n c : Nat) : Value.ownBlock (.slice A n c) = blk A := by cases A <;> rfl

section
variable {w w' : World} {base : Nat} {A : Option Addr} {n c : Nat} {L : List Int}
theorem Own.nil (w : World) (base : Nat) : Own w base none 0 0 [] := ⟨World.ownsRow_nil _ _ _ _, rfl, by omega, by simp⟩
theorem Own.ints (h : Own w base A n c L) : Ints w A n L := by
  refine ⟨h.len, h.le, h.fits, fun hn => ?_⟩
  obtain ⟨g, cap, hv, _, hlt⟩ := h.row.form hn
  have hA : A = some ⟨g, 0, none⟩ := by injection hv
  subst hA
  refine ⟨_, rfl, hlt, fun j x hx => ?_⟩
  exact h.row.cells (g := g) rfl j _ (by rw [List.getElem?_map, hx]; rfl)
theorem Own.alloc (h : Own w base A n c L) (o : Obj) : Own (w.alloc o) base A n c L := ⟨h.row.alloc o, h.len, h.le, h.fits⟩
theorem Own.drewN (h : Own w base A n c L) (k : Nat) : Own (w.drewN k) base A n c L := ⟨h.row, h.len, h.le, h.fits⟩
theorem Own.drew (h : Own w base A n c L) : Own w.drew base A n c L := ⟨h.row, h.len, h.le, h.fits⟩
theorem Own.lt (h : Own w base A n c L) : ∀ k, blk A = some k → base ≤ k ∧ k < w.heap.size := fun k hk => h.row.lt k (by rw [blk_own]; exact hk)
theorem Own.kept {row : Option Nat} (h : Own w base A n c L) (hg : w.grownBy w' row) (hne : blk A = none ∨ blk A ≠ row) : Own w' base A n c L :=
  ⟨h.row.kept hg (by rw [blk_own]; exact hne), h.len, h.le, h.fits⟩
theorem Own.below (h : Own w base A n c L) (hb : Below w.heap.size w w') : Own w' base A n c L := by
  refine h.kept (row := none) ⟨hb.os, hb.tape, hb.output, hb.size, fun k hk _ => hb.block k hk⟩ ?_
  cases blk A
  · exact .inl rfl
  · exact .inr (by simp)
theorem Own.mono {base' : Nat} (h : Own w base A n c L) (hb : base' ≤ base) : Own w base' A n c L := by
  refine ⟨⟨h.row.1, ?_⟩, h.len, h.le, h.fits⟩
  rcases h.row.2 with h1 | ⟨g, cap, cur, hv, hg, r⟩
  · exact .inl h1
  · exact .inr ⟨g, cap, cur, hv, by omega, r⟩
/-- Where there is an element, the address is known. -/
theorem Own.form (h : Own w base A n c L) (hn : 0 < n) : ∃ g, A = some ⟨g, 0, none⟩ ∧ base ≤ g ∧ g < w.heap.size := by
  obtain ⟨g, cap, hv, h1, h2⟩ := h.row.form hn
  exact ⟨g, by injection hv, h1, h2⟩
theorem Own.cap (h : Own w base A n c L) : n ≤ c := by
  rcases h.row.2 with ⟨h1, h2⟩ | ⟨g, cap, cur, hv, _, _, h2, _⟩
  · omega
  · injection hv with _ _ h3; omega
end

/-- 'append(out, y)'. -/
theorem app1 {w : World} {ops : Array Oper} {rest : List Oper} {o : Oper} {a : Act} {Q : Exit → Act → World → Prop} (hgd : o.guard = none) (s x : Operand)
    (ho : o.op = .call { callee := .builtin .append, args := #[s, x], argTypes := #[28, 28] })
    {base : Nat} {A : Option Addr} {n c : Nat} {L : List Int} (hown : Own w base A n c L) (y : Int) (hs : a.eval s = .slice A n c)
    {ad : Addr} {cc : Nat} (hx : a.eval x = .slice (some ad) 1 cc) (hcell : w.cell? ad = some (.int .i64 y)) (hy : I64 y) (hn : n < 17592186044416) (hbase : base ≤ w.heap.size)
    (h : ∀ A' c' w', Own w' base A' (n + 1) c' (L ++ [y]) → Below base w w' → w.grownBy w' (blk A) → (blk A' = blk A ∨ blk A' = some w.heap.size) → wpList Tryd.prog ops Q rest (a.put o.dst (.slice A' (n + 1) c')) w') :
    wpList Tryd.prog ops Q (o :: rest) a w := by
  obtain ⟨i0, hi, hz0, hz1, hz2⟩ := info_parts intInfo
  have hnews : ∀ j u, ([Value.int .i64 y] : List Value)[j]? = some u → w.cell? (ad.add j) = some u := by
    intro j u hj
    match j, hj with
    | 0, hj => simp at hj; subst hj; simpa [Addr.add] using hcell
  refine wpList_append_lies w hgd s x 28 ho base 3 i0 (.int .i64 0) 1 8 Tryd.underlying28 hi hz0 hz1 hz2 rfl (by decide) (.slice A n c) n _ hs hown.row ad 1 cc [.int .i64 y] hx rfl hnews
    (by intro u hu; simp at hu; subst hu; rfl) (by decide) (by unfold maxLen; omega) (by omega) hbase w.heap.size rfl ?_
  intro g cap w' h1 h2 h3 h4
  rw [blk_own] at h2 h3
  refine h _ _ _ ⟨by simpa using h1, by simp [hown.len], by omega, ?_⟩ ((Below.refl _ _).grown h2 hbase (fun k hk => (hown.lt k hk).1)) h2 ?_
  · intro z hz
    rcases List.mem_append.1 hz with hz | hz
    · exact hown.fits z hz
    · simp at hz; subst hz; exact hy
  · rcases h3 with h3 | h3
    · exact .inl (by rw [h3]; rfl)
    · exact .inr (by rw [← h3]; rfl)
/-- 'append(out, y)' behind the block in which y is laid. -/
theorem app1n {w : World} {ops : Array Oper} {rest : List Oper} {o : Oper} {a : Act} {Q : Exit → Act → World → Prop} (hgd : o.guard = none) (s x : Operand)
    (ho : o.op = .call { callee := .builtin .append, args := #[s, x], argTypes := #[28, 28] })
    {base : Nat} {A : Option Addr} {n c : Nat} {L : List Int} (hown : Own w base A n c L) (y : Int) (hs : a.eval s = .slice A n c)
    (hx : a.eval x = .slice (some ⟨w.heap.size, 0, none⟩) 1 1) (hy : I64 y) (hn : n < 17592186044416) (hbase : base ≤ w.heap.size)
    (h : ∀ A' c' w', Own w' base A' (n + 1) c' (L ++ [y]) → Below base w w' → (w.alloc (.cells #[.int .i64 y] 3)).grownBy w' (blk A) → (blk A' = blk A ∨ blk A' = some (w.heap.size + 1)) → wpList Tryd.prog ops Q rest (a.put o.dst (.slice A' (n + 1) c')) w') :
    wpList Tryd.prog ops Q (o :: rest) a (w.alloc (.cells #[.int .i64 y] 3)) :=
  app1 hgd s x ho (hown.alloc _) y hs hx (by rw [World.cell?_alloc_at _ _ _ _ rfl]; rfl) hy hn (by simp; omega) fun A' c' w' h1 h2 h3 h4 =>
    h A' c' w' h1 (((Below.refl _ _).alloc hbase _).trans h2) h3 (by simpa using h4)
/-- .. where the block's number is spelled otherwise. -/
theorem app1m {w : World} {ops : Array Oper} {rest : List Oper} {o : Oper} {a : Act} {Q : Exit → Act → World → Prop} (hgd : o.guard = none) (s x : Operand)
    (ho : o.op = .call { callee := .builtin .append, args := #[s, x], argTypes := #[28, 28] })
    {base : Nat} {A : Option Addr} {n c : Nat} {L : List Int} (hown : Own w base A n c L) (y : Int) (hs : a.eval s = .slice A n c)
    (H : Nat) (hH : w.heap.size = H) (hx : a.eval x = .slice (some ⟨H, 0, none⟩) 1 1) (hy : I64 y) (hn : n < 17592186044416) (hbase : base ≤ w.heap.size)
    (h : ∀ A' c' w', Own w' base A' (n + 1) c' (L ++ [y]) → Below base w w' → (w.alloc (.cells #[.int .i64 y] 3)).grownBy w' (blk A) → (blk A' = blk A ∨ blk A' = some (w.heap.size + 1)) → wpList Tryd.prog ops Q rest (a.put o.dst (.slice A' (n + 1) c')) w') :
    wpList Tryd.prog ops Q (o :: rest) a (w.alloc (.cells #[.int .i64 y] 3)) :=
  app1n hgd s x ho hown y hs (by rw [hH]; exact hx) hy hn hbase h
theorem run_append_of_nil {P : Program} (w : World) (base : Nat) (t ty e : TypeId) (i : TypeInfo) (size : Nat) (ht : P.underlying t = some (.slice e)) (hi : P.info? e = some i)
    (v : Value) (n : Nat) (xs : List Value) (hown : w.ownsRow base e size v n xs) (c : Nat) : (Builtin.append_ #[t, t] ty #[v, .slice none 0 c]).run P w = .ok v w := by
  rcases hown.2 with ⟨rfl, rfl⟩ | ⟨g, cap, cur, rfl, _, _, hnc, _⟩
  · simp [Builtin.append_, run_underlying ht, sizeOf, typeInfo, hi, Builtin.lenOf, Builtin.firstCells]
  · simp [Builtin.append_, run_underlying ht, sizeOf, typeInfo, hi, Builtin.lenOf, Builtin.firstCells, hnc, storeCells]
/-- What a run of append of a whole slice of ints leaves. -/
theorem run_appS {w : World} {base : Nat} {A : Option Addr} {n c : Nat} {L : List Int} (hown : Own w base A n c L) {B : Option Addr} {m d : Nat} {M : List Int} (hB : Ints w B m M)
    (hn : n + m ≤ 17592186044416) (hbase : base ≤ w.heap.size) :
    ∃ A' c' w', (Builtin.append_ #[28, 28] 28 #[.slice A n c, .slice B m d]).run Tryd.prog w = .ok (.slice A' (n + m) c') w' ∧ Own w' base A' (n + m) c' (L ++ M) ∧ Below base w w' ∧ w.grownBy w' (blk A) ∧ (blk A' = blk A ∨ blk A' = some w.heap.size) := by
  obtain ⟨i0, hi, hz0, hz1, hz2⟩ := info_parts intInfo
  have hfit : ∀ x ∈ L ++ M, I64 x := fun z hz => (List.mem_append.1 hz).elim (hown.fits z) (hB.fits z)
  have hlen : (L ++ M).length = n + m := by rw [List.length_append, hown.len, hB.len]
  rcases B with _ | ad
  · have hm : m = 0 := by
      rcases Nat.eq_zero_or_pos m with h0 | h0
      · exact h0
      · obtain ⟨ad, h, _⟩ := hB.2.2.2 h0
        cases h
    subst hm
    have hM : M = [] := List.eq_nil_of_length_eq_zero hB.len
    subst hM
    exact ⟨A, c, w, run_append_of_nil w base _ _ _ i0 1 Tryd.underlying28 hi _ n _ hown.row d, by simpa using hown, Below.refl _ _, World.grownBy.refl w _, .inl rfl⟩
  · have hcells : ∀ j u, (M.map (Value.int .i64))[j]? = some u → w.cell? (ad.add j) = some u := by
      intro j u hu
      rw [List.getElem?_map] at hu
      obtain ⟨x, hx, rfl⟩ := Option.map_eq_some_iff.1 hu
      have hjm : j < M.length := (List.getElem?_eq_some_iff.1 hx).1
      have hpos : 0 < m := by have := hB.len; omega
      obtain ⟨ad', h, _, hc⟩ := hB.2.2.2 hpos
      obtain rfl := Option.some.inj h
      exact hc j x hx
    obtain ⟨v', w', hrun, h2, h3, h4, h5⟩ := run_append_own_at (P := Tryd.prog) w base 28 28 3 i0 (.int .i64 0) 1 8 Tryd.underlying28 hi hz0 hz1 hz2 rfl (by decide) _ n _ hown.row ad m d (M.map (Value.int .i64)) (by simp [hB.len]) hcells
      (ints_oneCell _ _) (by unfold maxLen; omega) (by omega) hbase
    have hform : ∃ A' c', v' = .slice A' (n + m) c' := by
      rcases h2.2 with ⟨hv, hz⟩ | ⟨g, cap, cur, hv, _⟩
      · rw [hz]; exact ⟨none, 0, hv⟩
      · exact ⟨_, _, hv⟩
    obtain ⟨A', c', rfl⟩ := hform
    rw [blk_own] at h3
    simp only [blk_own] at h5
    exact ⟨A', c', w', hrun, ⟨by simpa using h2, hlen, hn, hfit⟩, (Below.refl _ _).grown h3 hbase (fun k hk => (hown.lt k hk).1), h3, h5⟩

/-- 'append(out, s...)'. -/
theorem wp_appS {w : World} {o : Oper} {a : Act} {K : Act → World → Prop} {Q : Exit → Act → World → Prop} (s x : Operand)
    (ho : o.op = .call { callee := .builtin .append, args := #[s, x], argTypes := #[28, 28] }) (hty : o.type = 28)
    {base : Nat} {A : Option Addr} {n c : Nat} {L : List Int} (hown : Own w base A n c L) {B : Option Addr} {m d : Nat} {M : List Int} (hB : Ints w B m M) (hs : a.eval s = .slice A n c)
    (hx : a.eval x = .slice B m d) (N : Nat) (hN : n + m = N) (hn : N ≤ 17592186044416) (hbase : base ≤ w.heap.size)
    (h : ∀ A' c' w', Own w' base A' N c' (L ++ M) → Below base w w' → w.grownBy w' (blk A) → (blk A' = blk A ∨ blk A' = some w.heap.size) → K (a.put o.dst (.slice A' N c')) w') :
    o.wp Tryd.prog a w K Q := by
  subst hN
  obtain ⟨A', c', w', hrun, h1, h2, h3, h4⟩ := run_appS (d := d) hown hB hn hbase
  unfold Oper.wp execOp
  simp only [ho, hty, resolve, invoke, builtin, Sem.run_bind, Sem.run_pure, Result.andThen_ok, List.map_toArray, List.map_cons, List.map_nil, hs, hx, hrun]
  exact h A' c' w' h1 h2 h3 h4
theorem appS {w : World} {ops : Array Oper} {rest : List Oper} {o : Oper} {a : Act} {Q : Exit → Act → World → Prop} (hgd : o.guard = none) (s x : Operand)
    (ho : o.op = .call { callee := .builtin .append, args := #[s, x], argTypes := #[28, 28] }) (hty : o.type = 28)
    {base : Nat} {A : Option Addr} {n c : Nat} {L : List Int} (hown : Own w base A n c L) {B : Option Addr} {m d : Nat} {M : List Int} (hB : Ints w B m M) (hs : a.eval s = .slice A n c)
    (hx : a.eval x = .slice B m d) (N : Nat) (hN : n + m = N) (hn : N ≤ 17592186044416) (hbase : base ≤ w.heap.size)
    (h : ∀ A' c' w', Own w' base A' N c' (L ++ M) → Below base w w' → w.grownBy w' (blk A) → (blk A' = blk A ∨ blk A' = some w.heap.size) → wpList Tryd.prog ops Q rest (a.put o.dst (.slice A' N c')) w') :
    wpList Tryd.prog ops Q (o :: rest) a w :=
  wpList_plain hgd fun _ hK => wp_appS s x ho hty hown hB hs hx N hN hn hbase fun A' c' w' h1 h2 h3 h4 => hK _ _ (h A' c' w' h1 h2 h3 h4)
/-- .. at a step of a region that draws its order. -/
theorem stepS {w : World} {ops : Array Oper} {o : Oper} {a : Act} {K : Act → World → Prop} {Q : Exit → Act → World → Prop} {E : Prop} (hgd : o.guard = none) (s x : Operand)
    (ho : o.op = .call { callee := .builtin .append, args := #[s, x], argTypes := #[28, 28] }) (hty : o.type = 28)
    {base : Nat} {A : Option Addr} {n c : Nat} {L : List Int} (hown : Own w base A n c L) {B : Option Addr} {m d : Nat} {M : List Int} (hB : Ints w B m M) (hs : a.eval s = .slice A n c)
    (hx : a.eval x = .slice B m d) (N : Nat) (hN : n + m = N) (hn : N ≤ 17592186044416) (hbase : base ≤ w.heap.size)
    (h : ∀ A' c' w', Own w' base A' N c' (L ++ M) → Below base w w' → w.grownBy w' (blk A) → (blk A' = blk A ∨ blk A' = some w.heap.size) → K (a.put o.dst (.slice A' N c')) w') :
    if Region.wanted o (yielded ops a.tmps) = true then Oper.wp Tryd.prog o a w K Q else E := by
  have hw : Region.wanted o (yielded ops a.tmps) = true := by simp [Region.wanted, hgd]
  rw [if_pos hw]
  exact wp_appS s x ho hty hown hB hs hx N hN hn hbase h

/-- A cut of a slice of ints: what the walk writes for 's[i:j]'. -/
theorem Ints.cut {w : World} {A : Option Addr} {n i j c : Nat} {L : List Int} (h : Ints w A n L) (hij : i ≤ j) (hj : j ≤ n) (hc : n ≤ c) :
    Ints w (if c = i then A else A.map (·.add i)) (j - i) ((L.take j).drop i) := by
  have hl := h.len
  refine ⟨by simp [hl]; omega, by have := h.le; omega, fun x hx => h.fits x (List.mem_of_mem_take (List.mem_of_mem_drop hx)), fun hn => ?_⟩
  obtain ⟨ad, rfl, hb, hcell⟩ := h.2.2.2 (by omega)
  rw [if_neg (by omega)]
  refine ⟨ad.add i, rfl, by rw [block_of_add]; exact hb, fun t x hx => ?_⟩
  rw [add_of_add]
  rw [List.getElem?_drop, List.getElem?_take] at hx
  split at hx
  · exact hcell _ x hx
  · cases hx
theorem Ints.from {w : World} {A : Option Addr} {n i c : Nat} {L : List Int} (h : Ints w A n L) (hi : i ≤ n) (hc : n ≤ c) :
    Ints w (if c = i then A else A.map (·.add i)) (n - i) (L.drop i) := by
  have := h.cut (i := i) (j := n) hi (Nat.le_refl _) hc
  rwa [List.take_of_length_le (by rw [h.len]; exact Nat.le_refl _)] at this
theorem Ints.to {w : World} {A : Option Addr} {n i : Nat} {L : List Int} (h : Ints w A n L) (hi : i ≤ n) : Ints w A i (L.take i) := by
  refine ⟨by simp [h.len]; omega, by have := h.le; omega, fun x hx => h.fits x (List.mem_of_mem_take hx), fun hn => ?_⟩
  obtain ⟨ad, rfl, hb, hcell⟩ := h.2.2.2 (by omega)
  refine ⟨ad, rfl, hb, fun t x hx => hcell t x ?_⟩
  rw [List.getElem?_take] at hx
  split at hx
  · exact hx
  · cases hx
/-- 'make([]int, N)'. -/
theorem makeN {w : World} {ops : Array Oper} {rest : List Oper} {o : Oper} {a : Act} {Q : Exit → Act → World → Prop} (hgd : o.guard = none) (l c : Operand)
    (ho : o.op = .makeSlice 28 l c) (N : Nat) (hl : a.eval l = .int .i64 (N : Int)) (hc : a.eval c = .int .i64 (N : Int)) (hN : N ≤ 17592186044416) {base : Nat} (hbase : base ≤ w.heap.size)
    (h : ∀ w', Own w' base (some ⟨w.heap.size, 0, none⟩) N N (List.replicate N 0) → Below w.heap.size w w' → w.heap.size < w'.heap.size → wpList Tryd.prog ops Q rest (a.put o.dst (.slice (some ⟨w.heap.size, 0, none⟩) N N)) w') :
    wpList Tryd.prog ops Q (o :: rest) a w := by
  obtain ⟨i0, hi, hz0, hz1, hz2⟩ := info_parts intInfo
  refine wpList_make_full w hgd l c 28 ho base 3 i0 (.int .i64 0) 1 Tryd.underlying28 hi hz0 hz1 .i64 .i64 _ _ N hl hc rfl rfl (by rw [hz2]; omega) (by unfold maxLen; omega) hbase ?_
  intro w' h1 h2
  have hm : (madeCells (Value.cells (.int .i64 0)) (N * 1)).toList = (List.replicate N (0 : Int)).map (Value.int .i64) := by
    rw [Nat.mul_one, List.map_replicate]
    exact toList_madeCells_one _ _
  rw [hm] at h1
  have hown : Own w' base (some ⟨w.heap.size, 0, none⟩) N N (List.replicate N 0) := ⟨h1, by simp, hN, by intro x hx; rw [List.eq_of_mem_replicate hx]; exact ⟨by omega, by omega⟩⟩
  refine h w' hown ((Below.refl _ _).grown h2 (Nat.le_refl _) (by simp)) ?_
  exact (hown.lt w.heap.size rfl).2
theorem Own.stored {w : World} {base g n c : Nat} {L : List Int} (h : Own w base (some ⟨g, 0, none⟩) n c L) (j : Nat) {x : Int} (hx : I64 x) :
    Own (w.setCell ⟨g, j, none⟩ (.int .i64 x)) base (some ⟨g, 0, none⟩) n c (L.set j x) := by
  have := (h.row.stored j (.int .i64 x)).1
  refine ⟨by simpa using this, by simpa using h.len, h.le, fun z hz => ?_⟩
  rcases List.mem_or_eq_of_mem_set hz with h1 | h1
  · exact h.fits z h1
  · subst h1; exact hx
theorem Own.cell {w : World} {base g n c : Nat} {L : List Int} (h : Own w base (some ⟨g, 0, none⟩) n c L) {k : Nat} {x : Int} (hx : L[k]? = some x) : w.cell? ⟨g, k, none⟩ = some (.int .i64 x) := by
  have := h.row.cells (g := g) rfl k (.int .i64 x) (by rw [List.getElem?_map, hx]; rfl)
  rwa [Addr.add_lit, Nat.zero_add] at this
theorem Own.free {w : World} {base g n c : Nat} {L : List Int} (h : Own w base (some ⟨g, 0, none⟩) n c L) (k : Nat) : w.frozen? ⟨g, k, none⟩ = false := by
  rcases h.row.2 with ⟨h', _⟩ | ⟨g', cap', cur, h', hb, hg, _⟩
  · simp at h'
  · simp only [Value.slice.injEq, Option.some.injEq, Addr.mk.injEq, and_true, true_and] at h'
    obtain ⟨rfl, rfl⟩ := h'
    simp [World.frozen?, hg]
theorem own_nil_frame {w : World} {base : Nat} : Own w base none 0 0 [] := Own.nil w base
theorem ret_slice {A : Option Addr} {n n' c : Nat} (h : n = n') : Ending.returned (.slice A n c) = .returned (.slice A n' c) := by rw [h]
end Go.Proofs.YtpdkonpnhalecaaDoor
