/-
  A slice of ints that the call itself has made: the word 'Own', and the laws of append in that word. No condition.
  Slices of ints of the call's own, found by a walk back over the world; lists of indexes; the block of a code that a function of the document boxes. No condition.
  A slice of any element type that lies in a block of the call's own, at any place in it: the word 'Row', over any program; its cuts, stores and appends. No condition.
  Memory words: slices of bools, slices of slices of ints, blocks that are known whole, worlds that differ in one block and in what is new. No condition.
  Memory words: own slices of letters and of places; what struct literals build. No condition.
-/
import Derived.Test.YtkjcmppaapbabaaDoorJB
import Derived.Deep.RegionHeld3
import Derived.Deep.RegionLaw
import Derived.ArgAppend
import Derived.Test.YtkjcmppaapbabaaDoorJA
import Derived.Great.BuildSlice
import Derived.Laws.StructEq
import Derived.Laws.ResultCell
namespace Go.Proofs.YtkjcmppaapbabaaDoor
section
open Go.RowKit

theorem intInfo : (Tryd.prog.info? 3).map (fun i => (i.zero, i.size, i.bytes)) = some (some (.int .i64 0), 1, 8) := by kernel_rfl

/-- The slice '.slice A n c' lies at the head of a block of the call's own (from base on), or is nil; it reads as L. -/
structure Own (w : World) (base : Nat) (A : Option Addr) (n c : Nat) (L : List Int) : Prop where
  row : w.ownsRow base 3 1 (.slice A n c) n (L.map (Value.int .i64))
  len : L.length = n
  le : n ≤ 17592186044416
  fits : ∀ x ∈ L, I64 x

def blk : Option Addr → Option Nat
  | some a => some a.block
  | none => none
theorem blk_own (A : Option Addr) (n c : Nat) : Value.ownBlock (.slice A n c) = blk A := by cases A <;> rfl

section
variable {w w' : World} {base : Nat} {A : Option Addr} {n c : Nat} {L : List Int}
theorem Own.nil (w : World) (base : Nat) : Own w base none 0 0 [] := ⟨World.ownsRow_nil _ _ _ _, rfl, by omega, by simp⟩
theorem Own.ints (h : Own w base A n c L) : Ints w A n L := by
  refine ⟨h.len, h.le, h.fits, fun hn => ?_⟩
  obtain ⟨g, cap, hv, _, hlt⟩ := h.row.form hn
  have hA : A = some ⟨g, 0, none⟩ := by injection hv
  subst hA
  refine ⟨_, rfl, hlt, fun j x hx => ?_⟩
  exact h.row.cells (g := g) rfl j _ (by rw [List.getElem?_map, hx]; rfl)
theorem Own.alloc (h : Own w base A n c L) (o : Obj) : Own (w.alloc o) base A n c L := ⟨h.row.alloc o, h.len, h.le, h.fits⟩
theorem Own.drewN (h : Own w base A n c L) (k : Nat) : Own (w.drewN k) base A n c L := ⟨h.row, h.len, h.le, h.fits⟩
theorem Own.drew (h : Own w base A n c L) : Own w.drew base A n c L := ⟨h.row, h.len, h.le, h.fits⟩
theorem Own.lt (h : Own w base A n c L) : ∀ k, blk A = some k → base ≤ k ∧ k < w.heap.size := fun k hk => h.row.lt k (by rw [blk_own]; exact hk)
theorem Own.kept {row : Option Nat} (h : Own w base A n c L) (hg : w.grownBy w' row) (hne : blk A = none ∨ blk A ≠ row) : Own w' base A n c L :=
  ⟨h.row.kept hg (by rw [blk_own]; exact hne), h.len, h.le, h.fits⟩
theorem Own.below (h : Own w base A n c L) (hb : Below w.heap.size w w') : Own w' base A n c L := by
  refine h.kept (row := none) ⟨hb.os, hb.tape, hb.output, hb.size, fun k hk _ => hb.block k hk⟩ ?_
  cases blk A
  · exact .inl rfl
  · exact .inr (by simp)
theorem Own.mono {base' : Nat} (h : Own w base A n c L) (hb : base' ≤ base) : Own w base' A n c L := by
  refine ⟨⟨h.row.1, ?_⟩, h.len, h.le, h.fits⟩
  rcases h.row.2 with h1 | ⟨g, cap, cur, hv, hg, r⟩
  · exact .inl h1
  · exact .inr ⟨g, cap, cur, hv, by omega, r⟩
/-- Where there is an element, the address is known. -/
theorem Own.form (h : Own w base A n c L) (hn : 0 < n) : ∃ g, A = some ⟨g, 0, none⟩ ∧ base ≤ g ∧ g < w.heap.size := by
  obtain ⟨g, cap, hv, h1, h2⟩ := h.row.form hn
  exact ⟨g, by injection hv, h1, h2⟩
theorem Own.cap (h : Own w base A n c L) : n ≤ c := by
  rcases h.row.2 with ⟨h1, h2⟩ | ⟨g, cap, cur, hv, _, _, h2, _⟩
  · omega
  · injection hv with _ _ h3; omega
end

/-- 'append(out, y)'. -/
theorem app1 {w : World} {ops : Array Oper} {rest : List Oper} {o : Oper} {a : Act} {Q : Exit → Act → World → Prop} (hgd : o.guard = none) (s x : Operand)
    (ho : o.op = .call { callee := .builtin .append, args := #[s, x], argTypes := #[35, 35] })
    {base : Nat} {A : Option Addr} {n c : Nat} {L : List Int} (hown : Own w base A n c L) (y : Int) (hs : a.eval s = .slice A n c)
    {ad : Addr} {cc : Nat} (hx : a.eval x = .slice (some ad) 1 cc) (hcell : w.cell? ad = some (.int .i64 y)) (hy : I64 y) (hn : n < 17592186044416) (hbase : base ≤ w.heap.size)
    (h : ∀ A' c' w', Own w' base A' (n + 1) c' (L ++ [y]) → Below base w w' → w.grownBy w' (blk A) → (blk A' = blk A ∨ blk A' = some w.heap.size) → wpList Tryd.prog ops Q rest (a.put o.dst (.slice A' (n + 1) c')) w') :
    wpList Tryd.prog ops Q (o :: rest) a w := by
  obtain ⟨i0, hi, hz0, hz1, hz2⟩ := info_parts intInfo
  have hnews : ∀ j u, ([Value.int .i64 y] : List Value)[j]? = some u → w.cell? (ad.add j) = some u := by
    intro j u hj
    match j, hj with
    | 0, hj => simp at hj; subst hj; simpa [Addr.add] using hcell
  refine wpList_append_lies w hgd s x 35 ho base 3 i0 (.int .i64 0) 1 8 Tryd.underlying35 hi hz0 hz1 hz2 rfl (by decide) (.slice A n c) n _ hs hown.row ad 1 cc [.int .i64 y] hx rfl hnews
    (by intro u hu; simp at hu; subst hu; rfl) (by decide) (by unfold maxLen; omega) (by omega) hbase w.heap.size rfl ?_
  intro g cap w' h1 h2 h3 h4
  rw [blk_own] at h2 h3
  refine h _ _ _ ⟨by simpa using h1, by simp [hown.len], by omega, ?_⟩ ((Below.refl _ _).grown h2 hbase (fun k hk => (hown.lt k hk).1)) h2 ?_
  · intro z hz
    rcases List.mem_append.1 hz with hz | hz
    · exact hown.fits z hz
    · simp at hz; subst hz; exact hy
  · rcases h3 with h3 | h3
    · exact .inl (by rw [h3]; rfl)
    · exact .inr (by rw [← h3]; rfl)
/-- 'append(out, y)' behind the block in which y is laid. -/
theorem app1n {w : World} {ops : Array Oper} {rest : List Oper} {o : Oper} {a : Act} {Q : Exit → Act → World → Prop} (hgd : o.guard = none) (s x : Operand)
    (ho : o.op = .call { callee := .builtin .append, args := #[s, x], argTypes := #[35, 35] })
    {base : Nat} {A : Option Addr} {n c : Nat} {L : List Int} (hown : Own w base A n c L) (y : Int) (hs : a.eval s = .slice A n c)
    (hx : a.eval x = .slice (some ⟨w.heap.size, 0, none⟩) 1 1) (hy : I64 y) (hn : n < 17592186044416) (hbase : base ≤ w.heap.size)
    (h : ∀ A' c' w', Own w' base A' (n + 1) c' (L ++ [y]) → Below base w w' → (w.alloc (.cells #[.int .i64 y] 3)).grownBy w' (blk A) → (blk A' = blk A ∨ blk A' = some (w.heap.size + 1)) → wpList Tryd.prog ops Q rest (a.put o.dst (.slice A' (n + 1) c')) w') :
    wpList Tryd.prog ops Q (o :: rest) a (w.alloc (.cells #[.int .i64 y] 3)) :=
  app1 hgd s x ho (hown.alloc _) y hs hx (by rw [World.cell?_alloc_at _ _ _ _ rfl]; rfl) hy hn (by simp; omega) fun A' c' w' h1 h2 h3 h4 =>
    h A' c' w' h1 (((Below.refl _ _).alloc hbase _).trans h2) h3 (by simpa using h4)
/-- .. where the block's number is spelled otherwise. -/
theorem app1m {w : World} {ops : Array Oper} {rest : List Oper} {o : Oper} {a : Act} {Q : Exit → Act → World → Prop} (hgd : o.guard = none) (s x : Operand)
    (ho : o.op = .call { callee := .builtin .append, args := #[s, x], argTypes := #[35, 35] })
    {base : Nat} {A : Option Addr} {n c : Nat} {L : List Int} (hown : Own w base A n c L) (y : Int) (hs : a.eval s = .slice A n c)
    (H : Nat) (hH : w.heap.size = H) (hx : a.eval x = .slice (some ⟨H, 0, none⟩) 1 1) (hy : I64 y) (hn : n < 17592186044416) (hbase : base ≤ w.heap.size)
    (h : ∀ A' c' w', Own w' base A' (n + 1) c' (L ++ [y]) → Below base w w' → (w.alloc (.cells #[.int .i64 y] 3)).grownBy w' (blk A) → (blk A' = blk A ∨ blk A' = some (w.heap.size + 1)) → wpList Tryd.prog ops Q rest (a.put o.dst (.slice A' (n + 1) c')) w') :
    wpList Tryd.prog ops Q (o :: rest) a (w.alloc (.cells #[.int .i64 y] 3)) :=
  app1n hgd s x ho hown y hs (by rw [hH]; exact hx) hy hn hbase h
theorem run_append_of_nil {P : Program} (w : World) (base : Nat) (t ty e : TypeId) (i : TypeInfo) (size : Nat) (ht : P.underlying t = some (.slice e)) (hi : P.info? e = some i)
    (v : Value) (n : Nat) (xs : List Value) (hown : w.ownsRow base e size v n xs) (c : Nat) : (Builtin.append_ #[t, t] ty #[v, .slice none 0 c]).run P w = .ok v w := by
  rcases hown.2 with ⟨rfl, rfl⟩ | ⟨g, cap, cur, rfl, _, _, hnc, _⟩
  · simp [Builtin.append_, run_underlying ht, sizeOf, typeInfo, hi, Builtin.lenOf, Builtin.firstCells]
  · simp [Builtin.append_, run_underlying ht, sizeOf, typeInfo, hi, Builtin.lenOf, Builtin.firstCells, hnc, storeCells]
/-- What a run of append of a whole slice of ints leaves. -/
theorem run_appS {w : World} {base : Nat} {A : Option Addr} {n c : Nat} {L : List Int} (hown : Own w base A n c L) {B : Option Addr} {m d : Nat} {M : List Int} (hB : Ints w B m M)
    (hn : n + m ≤ 17592186044416) (hbase : base ≤ w.heap.size) :
    ∃ A' c' w', (Builtin.append_ #[35, 35] 35 #[.slice A n c, .slice B m d]).run Tryd.prog w = .ok (.slice A' (n + m) c') w' ∧ Own w' base A' (n + m) c' (L ++ M) ∧ Below base w w' ∧ w.grownBy w' (blk A) ∧ (blk A' = blk A ∨ blk A' = some w.heap.size) := by
  obtain ⟨i0, hi, hz0, hz1, hz2⟩ := info_parts intInfo
  have hfit : ∀ x ∈ L ++ M, I64 x := fun z hz => (List.mem_append.1 hz).elim (hown.fits z) (hB.fits z)
  have hlen : (L ++ M).length = n + m := by rw [List.length_append, hown.len, hB.len]
  rcases B with _ | ad
  · have hm : m = 0 := by
      rcases Nat.eq_zero_or_pos m with h0 | h0
      · exact h0
      · obtain ⟨ad, h, _⟩ := hB.2.2.2 h0
        cases h
    subst hm
    have hM : M = [] := List.eq_nil_of_length_eq_zero hB.len
    subst hM
    exact ⟨A, c, w, run_append_of_nil w base _ _ _ i0 1 Tryd.underlying35 hi _ n _ hown.row d, by simpa using hown, Below.refl _ _, World.grownBy.refl w _, .inl rfl⟩
  · have hcells : ∀ j u, (M.map (Value.int .i64))[j]? = some u → w.cell? (ad.add j) = some u := by
      intro j u hu
      rw [List.getElem?_map] at hu
      obtain ⟨x, hx, rfl⟩ := Option.map_eq_some_iff.1 hu
      have hjm : j < M.length := (List.getElem?_eq_some_iff.1 hx).1
      have hpos : 0 < m := by have := hB.len; omega
      obtain ⟨ad', h, _, hc⟩ := hB.2.2.2 hpos
      obtain rfl := Option.some.inj h
      exact hc j x hx
    obtain ⟨v', w', hrun, h2, h3, h4, h5⟩ := run_append_own_at (P := Tryd.prog) w base 35 35 3 i0 (.int .i64 0) 1 8 Tryd.underlying35 hi hz0 hz1 hz2 rfl (by decide) _ n _ hown.row ad m d (M.map (Value.int .i64)) (by simp [hB.len]) hcells
      (ints_oneCell _ _) (by unfold maxLen; omega) (by omega) hbase
    have hform : ∃ A' c', v' = .slice A' (n + m) c' := by
      rcases h2.2 with ⟨hv, hz⟩ | ⟨g, cap, cur, hv, _⟩
      · rw [hz]; exact ⟨none, 0, hv⟩
      · exact ⟨_, _, hv⟩
    obtain ⟨A', c', rfl⟩ := hform
    rw [blk_own] at h3
    simp only [blk_own] at h5
    exact ⟨A', c', w', hrun, ⟨by simpa using h2, hlen, hn, hfit⟩, (Below.refl _ _).grown h3 hbase (fun k hk => (hown.lt k hk).1), h3, h5⟩

/-- 'append(out, s...)'. -/
theorem wp_appS {w : World} {o : Oper} {a : Act} {K : Act → World → Prop} {Q : Exit → Act → World → Prop} (s x : Operand)
    (ho : o.op = .call { callee := .builtin .append, args := #[s, x], argTypes := #[35, 35] }) (hty : o.type = 35)
    {base : Nat} {A : Option Addr} {n c : Nat} {L : List Int} (hown : Own w base A n c L) {B : Option Addr} {m d : Nat} {M : List Int} (hB : Ints w B m M) (hs : a.eval s = .slice A n c)
    (hx : a.eval x = .slice B m d) (N : Nat) (hN : n + m = N) (hn : N ≤ 17592186044416) (hbase : base ≤ w.heap.size)
    (h : ∀ A' c' w', Own w' base A' N c' (L ++ M) → Below base w w' → w.grownBy w' (blk A) → (blk A' = blk A ∨ blk A' = some w.heap.size) → K (a.put o.dst (.slice A' N c')) w') :
    o.wp Tryd.prog a w K Q := by
  subst hN
  obtain ⟨A', c', w', hrun, h1, h2, h3, h4⟩ := run_appS (d := d) hown hB hn hbase
  unfold Oper.wp execOp
  simp only [ho, hty, resolve, invoke, builtin, Sem.run_bind, Sem.run_pure, Result.andThen_ok, List.map_toArray, List.map_cons, List.map_nil, hs, hx, hrun]
  exact h A' c' w' h1 h2 h3 h4
theorem appS {w : World} {ops : Array Oper} {rest : List Oper} {o : Oper} {a : Act} {Q : Exit → Act → World → Prop} (hgd : o.guard = none) (s x : Operand)
    (ho : o.op = .call { callee := .builtin .append, args := #[s, x], argTypes := #[35, 35] }) (hty : o.type = 35)
    {base : Nat} {A : Option Addr} {n c : Nat} {L : List Int} (hown : Own w base A n c L) {B : Option Addr} {m d : Nat} {M : List Int} (hB : Ints w B m M) (hs : a.eval s = .slice A n c)
    (hx : a.eval x = .slice B m d) (N : Nat) (hN : n + m = N) (hn : N ≤ 17592186044416) (hbase : base ≤ w.heap.size)
    (h : ∀ A' c' w', Own w' base A' N c' (L ++ M) → Below base w w' → w.grownBy w' (blk A) → (blk A' = blk A ∨ blk A' = some w.heap.size) → wpList Tryd.prog ops Q rest (a.put o.dst (.slice A' N c')) w') :
    wpList Tryd.prog ops Q (o :: rest) a w :=
  wpList_plain hgd fun _ hK => wp_appS s x ho hty hown hB hs hx N hN hn hbase fun A' c' w' h1 h2 h3 h4 => hK _ _ (h A' c' w' h1 h2 h3 h4)
/-- .. at a step of a region that draws its order. -/
theorem stepS {w : World} {ops : Array Oper} {o : Oper} {a : Act} {K : Act → World → Prop} {Q : Exit → Act → World → Prop} {E : Prop} (hgd : o.guard = none) (s x : Operand)
    (ho : o.op = .call { callee := .builtin .append, args := #[s, x], argTypes := #[35, 35] }) (hty : o.type = 35)
    {base : Nat} {A : Option Addr} {n c : Nat} {L : List Int} (hown : Own w base A n c L) {B : Option Addr} {m d : Nat} {M : List Int} (hB : Ints w B m M) (hs : a.eval s = .slice A n c)
    (hx : a.eval x = .slice B m d) (N : Nat) (hN : n + m = N) (hn : N ≤ 17592186044416) (hbase : base ≤ w.heap.size)
    (h : ∀ A' c' w', Own w' base A' N c' (L ++ M) → Below base w w' → w.grownBy w' (blk A) → (blk A' = blk A ∨ blk A' = some w.heap.size) → K (a.put o.dst (.slice A' N c')) w') :
    if Region.wanted o (yielded ops a.tmps) = true then Oper.wp Tryd.prog o a w K Q else E := by
  have hw : Region.wanted o (yielded ops a.tmps) = true := by simp [Region.wanted, hgd]
  rw [if_pos hw]
  exact wp_appS s x ho hty hown hB hs hx N hN hn hbase h

/-- A cut of a slice of ints: what the walk writes for 's[i:j]'. -/
theorem Ints.cut {w : World} {A : Option Addr} {n i j c : Nat} {L : List Int} (h : Ints w A n L) (hij : i ≤ j) (hj : j ≤ n) (hc : n ≤ c) :
    Ints w (if c = i then A else A.map (·.add i)) (j - i) ((L.take j).drop i) := by
  have hl := h.len
  refine ⟨by simp [hl]; omega, by have := h.le; omega, fun x hx => h.fits x (List.mem_of_mem_take (List.mem_of_mem_drop hx)), fun hn => ?_⟩
  obtain ⟨ad, rfl, hb, hcell⟩ := h.2.2.2 (by omega)
  rw [if_neg (by omega)]
  refine ⟨ad.add i, rfl, by rw [block_of_add]; exact hb, fun t x hx => ?_⟩
  rw [add_of_add]
  rw [List.getElem?_drop, List.getElem?_take] at hx
  split at hx
  · exact hcell _ x hx
  · cases hx
theorem Ints.from {w : World} {A : Option Addr} {n i c : Nat} {L : List Int} (h : Ints w A n L) (hi : i ≤ n) (hc : n ≤ c) :
    Ints w (if c = i then A else A.map (·.add i)) (n - i) (L.drop i) := by
  have := h.cut (i := i) (j := n) hi (Nat.le_refl _) hc
  rwa [List.take_of_length_le (by rw [h.len]; exact Nat.le_refl _)] at this
theorem Ints.to {w : World} {A : Option Addr} {n i : Nat} {L : List Int} (h : Ints w A n L) (hi : i ≤ n) : Ints w A i (L.take i) := by
  refine ⟨by simp [h.len]; omega, by have := h.le; omega, fun x hx => h.fits x (List.mem_of_mem_take hx), fun hn => ?_⟩
  obtain ⟨ad, rfl, hb, hcell⟩ := h.2.2.2 (by omega)
  refine ⟨ad, rfl, hb, fun t x hx => hcell t x ?_⟩
  rw [List.getElem?_take] at hx
  split at hx
  · exact hx
  · cases hx
/-- 'make([]int, N)'. -/
theorem makeN {w : World} {ops : Array Oper} {rest : List Oper} {o : Oper} {a : Act} {Q : Exit → Act → World → Prop} (hgd : o.guard = none) (l c : Operand)
    (ho : o.op = .makeSlice 35 l c) (N : Nat) (hl : a.eval l = .int .i64 (N : Int)) (hc : a.eval c = .int .i64 (N : Int)) (hN : N ≤ 17592186044416) {base : Nat} (hbase : base ≤ w.heap.size)
    (h : ∀ w', Own w' base (some ⟨w.heap.size, 0, none⟩) N N (List.replicate N 0) → Below w.heap.size w w' → w.heap.size < w'.heap.size → wpList Tryd.prog ops Q rest (a.put o.dst (.slice (some ⟨w.heap.size, 0, none⟩) N N)) w') :
    wpList Tryd.prog ops Q (o :: rest) a w := by
  obtain ⟨i0, hi, hz0, hz1, hz2⟩ := info_parts intInfo
  refine wpList_make_full w hgd l c 35 ho base 3 i0 (.int .i64 0) 1 Tryd.underlying35 hi hz0 hz1 .i64 .i64 _ _ N hl hc rfl rfl (by rw [hz2]; omega) (by unfold maxLen; omega) hbase ?_
  intro w' h1 h2
  have hm : (madeCells (Value.cells (.int .i64 0)) (N * 1)).toList = (List.replicate N (0 : Int)).map (Value.int .i64) := by
    rw [Nat.mul_one, List.map_replicate]
    exact toList_madeCells_one _ _
  rw [hm] at h1
  have hown : Own w' base (some ⟨w.heap.size, 0, none⟩) N N (List.replicate N 0) := ⟨h1, by simp, hN, by intro x hx; rw [List.eq_of_mem_replicate hx]; exact ⟨by omega, by omega⟩⟩
  refine h w' hown ((Below.refl _ _).grown h2 (Nat.le_refl _) (by simp)) ?_
  exact (hown.lt w.heap.size rfl).2
theorem Own.stored {w : World} {base g n c : Nat} {L : List Int} (h : Own w base (some ⟨g, 0, none⟩) n c L) (j : Nat) {x : Int} (hx : I64 x) :
    Own (w.setCell ⟨g, j, none⟩ (.int .i64 x)) base (some ⟨g, 0, none⟩) n c (L.set j x) := by
  have := (h.row.stored j (.int .i64 x)).1
  refine ⟨by simpa using this, by simpa using h.len, h.le, fun z hz => ?_⟩
  rcases List.mem_or_eq_of_mem_set hz with h1 | h1
  · exact h.fits z h1
  · subst h1; exact hx
theorem Own.cell {w : World} {base g n c : Nat} {L : List Int} (h : Own w base (some ⟨g, 0, none⟩) n c L) {k : Nat} {x : Int} (hx : L[k]? = some x) : w.cell? ⟨g, k, none⟩ = some (.int .i64 x) := by
  have := h.row.cells (g := g) rfl k (.int .i64 x) (by rw [List.getElem?_map, hx]; rfl)
  rwa [Addr.add_lit, Nat.zero_add] at this
theorem Own.free {w : World} {base g n c : Nat} {L : List Int} (h : Own w base (some ⟨g, 0, none⟩) n c L) (k : Nat) : w.frozen? ⟨g, k, none⟩ = false := by
  rcases h.row.2 with ⟨h', _⟩ | ⟨g', cap', cur, h', hb, hg, _⟩
  · simp at h'
  · simp only [Value.slice.injEq, Option.some.injEq, Addr.mk.injEq, and_true, true_and] at h'
    obtain ⟨rfl, rfl⟩ := h'
    simp [World.frozen?, hg]
theorem own_nil_frame {w : World} {base : Nat} : Own w base none 0 0 [] := Own.nil w base
theorem ret_slice {A : Option Addr} {n n' c : Nat} (h : n = n') : Ending.returned (.slice A n c) = .returned (.slice A n' c) := by rw [h]
end

section
open Go.RowKit
theorem Ints.one {w : World} {t : TypeId} {x : Int} (hx : I64 x) : Ints (w.alloc (.cells #[.int .i64 x] t)) (some ⟨w.heap.size, 0, none⟩) 1 [x] :=
  ⟨rfl, by omega, (by intro z hz; simp at hz; subst hz; exact hx), fun _ => ⟨_, rfl, by simp, fun j y hy => by
    match j, hy with
    | 0, hy => simp at hy; subst hy; rw [Addr.add_lit, World.cell?_alloc_at _ _ _ _ rfl]; rfl⟩⟩
theorem Own.one {w : World} {base : Nat} {x : Int} (hx : I64 x) (hb : base ≤ w.heap.size) : Own (w.alloc (.cells #[.int .i64 x] 3)) base (some ⟨w.heap.size, 0, none⟩) 1 1 [x] := by
  refine ⟨⟨rfl, .inr ⟨w.heap.size, 1, _, rfl, hb, heap_alloc_new w _, Nat.le_refl _, by decide, rfl, rfl⟩⟩, rfl, by omega, ?_⟩
  intro z hz
  simp at hz
  subst hz
  exact hx
theorem Own.oneAt {w : World} {base k : Nat} {x : Int} (hx : I64 x) (hb : base ≤ w.heap.size) (hk : w.heap.size = k) : Own (w.alloc (.cells #[.int .i64 x] 3)) base (some ⟨k, 0, none⟩) 1 1 [x] := by
  subst hk
  exact Own.one hx hb
theorem Ints.oneAt {w : World} {t : TypeId} {x : Int} {k : Nat} (hx : I64 x) (hk : w.heap.size = k) : Ints (w.alloc (.cells #[.int .i64 x] t)) (some ⟨k, 0, none⟩) 1 [x] := by
  subst hk
  exact Ints.one hx
theorem Ints.drewD {w : World} {A : Option Addr} {n : Nat} {L : List Int} (h : Ints w A n L) : Ints w.drew A n L := h
theorem Ints.grow1 {w w' : World} {k n : Nat} {L : List Int} {row : Option Nat} (h : Ints w (some ⟨k, 0, none⟩) n L) (hg : w.grownBy w' row) (hne : row ≠ some k) : Ints w' (some ⟨k, 0, none⟩) n L := by
  refine ⟨h.1, h.2.1, h.2.2.1, fun hn => ?_⟩
  obtain ⟨ad, e, hb, hc⟩ := h.2.2.2 hn
  obtain rfl := Option.some.inj e
  refine ⟨_, rfl, Nat.lt_of_lt_of_le hb hg.size, fun j x hx => ?_⟩
  rw [← hc j x hx]
  exact World.cell?_of_block (hg.block _ (by rw [block_of_add]; exact hb) (by rw [block_of_add]; exact fun h => hne h.symm))
theorem Own.oneG {w : World} {base n c : Nat} {x : Int} {o : Obj} {A : Option Addr} {L : List Int} (hx : I64 x) (ho : o = .cells #[.int .i64 x] 3) (hn : n = 1) (hc : c = 1) (hL : L = [x]) (hA : A = some ⟨w.heap.size, 0, none⟩)
    (hb : base ≤ w.heap.size) : Own (w.alloc o) base A n c L := by
  subst ho; subst hA; subst hn; subst hc; subst hL
  exact Own.oneAt hx hb rfl
theorem Ints.oneG {w : World} {n : Nat} {x : Int} {o : Obj} {A : Option Addr} {L : List Int} (hx : I64 x) (ho : o = .cells #[.int .i64 x] 3) (hn : n = 1) (hL : L = [x]) (hA : A = some ⟨w.heap.size, 0, none⟩) : Ints (w.alloc o) A n L := by
  subst ho; subst hA; subst hn; subst hL
  exact Ints.oneAt hx rfl
theorem Ints.growG {w w' : World} {n : Nat} {L : List Int} {row : Option Nat} {A : Option Addr} (hg : w.grownBy w' row) (hne : ∀ a, A = some a → row ≠ some a.block) (h : Ints w A n L) : Ints w' A n L := by
  refine ⟨h.1, h.2.1, h.2.2.1, fun hn => ?_⟩
  obtain ⟨ad, e, hb, hc⟩ := h.2.2.2 hn
  refine ⟨ad, e, Nat.lt_of_lt_of_le hb hg.size, fun j x hx => ?_⟩
  rw [← hc j x hx]
  exact World.cell?_of_block (hg.block _ (by rw [block_of_add]; exact hb) (by rw [block_of_add]; exact fun h => hne ad e h.symm))
/-- A step of a region: the slices are read off the frame first. -/
theorem stepS2 {w : World} {ops : Array Oper} {o : Oper} {a : Act} {K : Act → World → Prop} {Q : Exit → Act → World → Prop} {E : Prop} (hgd : o.guard = none) (s x : Operand)
    (ho : o.op = .call { callee := .builtin .append, args := #[s, x], argTypes := #[35, 35] }) (hty : o.type = 35)
    {base : Nat} {A : Option Addr} {n c : Nat} {L : List Int} {B : Option Addr} {m d : Nat} {M : List Int} (hs : a.eval s = .slice A n c)
    (hx : a.eval x = .slice B m d) (hown : Own w base A n c L) (hB : Ints w B m M) (N : Nat) (hN : n + m = N) (hn : N ≤ 17592186044416) (hbase : base ≤ w.heap.size)
    (h : ∀ A' c' w', Own w' base A' N c' (L ++ M) → Below base w w' → w.grownBy w' (blk A) → (blk A' = blk A ∨ blk A' = some w.heap.size) → K (a.put o.dst (.slice A' N c')) w') :
    if Region.wanted o (yielded ops a.tmps) = true then Oper.wp Tryd.prog o a w K Q else E :=
  stepS hgd s x ho hty hown hB hs hx N hN hn hbase h
/-- A list of indexes as ints. -/
def natI (X : List Nat) : List Int := X.map (fun (x : Nat) => (x : Int))
theorem natI_len (X : List Nat) : (natI X).length = X.length := by simp [natI]
theorem natI_at {X : List Nat} {k : Nat} (h : k < X.length) : (natI X)[k]? = some ((xat X k : Nat) : Int) := by
  unfold natI xat
  rw [List.getElem?_map, List.getElem?_eq_getElem h]
  rfl
theorem natI_append (X Y : List Nat) : natI (X ++ Y) = natI X ++ natI Y := by simp [natI]
/-- The code in a block of its own: the first block that the function makes. -/
def Boxed (w wr : World) (K : Int) (A : Option Addr) (n c : Nat) : Prop := Below (w.heap.size + 1) (w.alloc (.cells #[.int .i64 K, .slice A n c] 24)) wr
section
variable {w wr wx : World} {K : Int} {A : Option Addr} {n c : Nat}
theorem Boxed.refl (w : World) (K : Int) (A : Option Addr) (n c : Nat) : Boxed w (w.alloc (.cells #[.int .i64 K, .slice A n c] 24)) K A n c := Below.refl _ _
theorem Boxed.below (h : Boxed w wr K A n c) : Below w.heap.size w wr := ((Below.refl _ _).alloc (Nat.le_refl _) _).trans (h.mono (by omega))
theorem Boxed.size (h : Boxed w wr K A n c) : w.heap.size + 1 ≤ wr.heap.size := by have := Below.size h; simpa using this
theorem Boxed.more (h : Boxed w wr K A n c) (hb : Below wr.heap.size wr wx) : Boxed w wx K A n c := below_chain h hb h.size
theorem Boxed.moreB {B : Nat} (h : Boxed w wr K A n c) (hb : Below B wr wx) (hB : w.heap.size + 1 ≤ B) : Boxed w wx K A n c := below_chain h hb hB
theorem Boxed.alloc (h : Boxed w wr K A n c) (o : Obj) : Boxed w (wr.alloc o) K A n c := Below.alloc h h.size o
theorem Boxed.drewN (h : Boxed w wr K A n c) (k : Nat) : Boxed w (wr.drewN k) K A n c := below_drewN h k
theorem Boxed.drew (h : Boxed w wr K A n c) : Boxed w wr.drew K A n c := Below.drew h
theorem Boxed.c0 (h : Boxed w wr K A n c) : wr.cell? ⟨w.heap.size, 0, none⟩ = some (.int .i64 K) :=
  (Below.cell h (p := ⟨w.heap.size, 0, none⟩) (by simp)).trans (by rw [World.cell?_alloc_at _ _ _ _ rfl]; rfl)
theorem Boxed.c1 (h : Boxed w wr K A n c) : wr.cell? ⟨w.heap.size, 1, none⟩ = some (.slice A n c) :=
  (Below.cell h (p := ⟨w.heap.size, 1, none⟩) (by simp)).trans (by rw [World.cell?_alloc_at _ _ _ _ rfl]; rfl)
theorem Boxed.frozen (h : Boxed w wr K A n c) (i : Nat) : wr.frozen? ⟨w.heap.size, i, none⟩ = false :=
  (Below.frozen h (p := ⟨w.heap.size, i, none⟩) (by simp)).trans (by unfold World.frozen?; rw [heap_alloc_new]; simp)
/-- The block's cells with it: what a drawn region keeps. -/
def BoxS (w wr : World) (K : Int) (A : Option Addr) (n c : Nat) : Prop := Boxed w wr K A n c ∧ wr.cell? ⟨w.heap.size, 0, none⟩ = some (.int .i64 K) ∧ wr.cell? ⟨w.heap.size, 1, none⟩ = some (.slice A n c)
theorem Boxed.s (h : Boxed w wr K A n c) : Boxed w wr K A n c ∧ wr.cell? ⟨w.heap.size, 0, none⟩ = some (.int .i64 K) ∧ wr.cell? ⟨w.heap.size, 1, none⟩ = some (.slice A n c) := ⟨h, h.c0, h.c1⟩
end
end

section
open Go.RowKit

/-- The slice '.slice A n c' lies in a block from base on (or is nil), its cells up to the capacity may be written, and its elements are the cells xs. -/
structure Row (w : World) (base size : Nat) (A : Option Addr) (n c : Nat) (xs : List Value) : Prop where
  len : xs.length = n * size
  cap : n ≤ c
  nil : A = none → c = 0
  at_ : ∀ ad, A = some ad → ad.spot = none ∧ base ≤ ad.block ∧ ad.block < w.heap.size ∧ (∀ j u, xs[j]? = some u → w.cell? ⟨ad.block, ad.off + j, none⟩ = some u) ∧
    ∀ j, j < c * size → (w.cell? ⟨ad.block, ad.off + j, none⟩).isSome = true ∧ w.frozen? ⟨ad.block, ad.off + j, none⟩ = false
/-- The slice '.slice B m c' reads as the cells news. -/
def Src (w : World) (size : Nat) (B : Option Addr) (m : Nat) (news : List Value) : Prop :=
  news.length = m * size ∧ (0 < m → ∃ ad, B = some ad ∧ ad.block < w.heap.size ∧ ∀ j u, news[j]? = some u → w.cell? (ad.add j) = some u)

theorem addr_eta {ad : Addr} (h : ad.spot = none) : ad = ⟨ad.block, ad.off, none⟩ := by cases ad; simp at h; subst h; rfl
theorem add_eta {ad : Addr} (h : ad.spot = none) (j : Nat) : ad.add j = ⟨ad.block, ad.off + j, none⟩ := by
  rw [addr_eta h]; exact Addr.add_lit _ _ _

section
variable {w w' : World} {base size : Nat} {A : Option Addr} {n c : Nat} {xs : List Value}
theorem Row.none_ (w : World) (base size : Nat) : Row w base size none 0 0 [] := ⟨by simp, Nat.le_refl _, fun _ => rfl, fun _ h => by cases h⟩
theorem Row.lt (h : Row w base size A n c xs) : ∀ k, blk A = some k → base ≤ k ∧ k < w.heap.size := by
  intro k hk
  cases A with
  | none => cases hk
  | some ad =>
    simp only [blk, Option.some.injEq] at hk
    subst hk
    obtain ⟨_, h1, h2, _⟩ := h.at_ ad rfl
    exact ⟨h1, h2⟩
theorem Row.kept {row : Option Nat} (h : Row w base size A n c xs) (hg : w.grownBy w' row) (hne : blk A = none ∨ blk A ≠ row) : Row w' base size A n c xs := by
  refine ⟨h.len, h.cap, h.nil, fun ad ha => ?_⟩
  obtain ⟨h1, h2, h3, h4, h5⟩ := h.at_ ad ha
  subst ha
  have hb : w'.heap[ad.block]? = w.heap[ad.block]? := hg.block _ h3 (hne.resolve_left (by simp [blk]))
  refine ⟨h1, h2, Nat.lt_of_lt_of_le h3 hg.size, fun j u hu => ?_, fun j hj => ?_⟩
  · rw [World.cell?_of_block (w := w) (w' := w') (a := ⟨ad.block, ad.off + j, none⟩) hb]; exact h4 j u hu
  · rw [World.cell?_of_block (w := w) (w' := w') (a := ⟨ad.block, ad.off + j, none⟩) hb, World.frozen?_of_block (w := w) (w' := w') (a := ⟨ad.block, ad.off + j, none⟩) hb]; exact h5 j hj
theorem Row.below (h : Row w base size A n c xs) (hb : Below w.heap.size w w') : Row w' base size A n c xs := by
  refine h.kept (row := none) ⟨hb.os, hb.tape, hb.output, hb.size, fun k hk _ => hb.block k hk⟩ ?_
  cases blk A
  · exact .inl rfl
  · exact .inr (by simp)
theorem Row.alloc (h : Row w base size A n c xs) (o : Obj) : Row (w.alloc o) base size A n c xs := h.below ((Below.refl _ _).alloc (Nat.le_refl _) o)
theorem Row.drew (h : Row w base size A n c xs) : Row w.drew base size A n c xs := h.below (Below.refl _ _).drew
theorem Row.drewN (h : Row w base size A n c xs) (k : Nat) : Row (w.drewN k) base size A n c xs := h.below (below_drewN (Below.refl _ _) k)
theorem Row.mono {base' : Nat} (h : Row w base size A n c xs) (hb : base' ≤ base) : Row w base' size A n c xs :=
  ⟨h.len, h.cap, h.nil, fun ad ha => by obtain ⟨h1, h2, h3⟩ := h.at_ ad ha; exact ⟨h1, by omega, h3⟩⟩
theorem Row.src (h : Row w base size A n c xs) : Src w size A n xs := by
  refine ⟨h.len, fun hn => ?_⟩
  cases A with
  | none => have := h.nil rfl; have := h.cap; omega
  | some ad =>
    obtain ⟨h1, h2, h3, h4, _⟩ := h.at_ ad rfl
    exact ⟨ad, rfl, h3, fun j u hu => by rw [add_eta h1]; exact h4 j u hu⟩
/-- Where there is an element, the address is known. -/
theorem Row.form (h : Row w base size A n c xs) (hn : 0 < n) : ∃ g off, A = some ⟨g, off, none⟩ ∧ base ≤ g ∧ g < w.heap.size := by
  cases A with
  | none => have := h.nil rfl; have := h.cap; omega
  | some ad =>
    obtain ⟨h1, h2, h3, _⟩ := h.at_ ad rfl
    exact ⟨ad.block, ad.off, by rw [← addr_eta h1], h2, h3⟩
theorem Row.cell {g off : Nat} (h : Row w base size (some ⟨g, off, none⟩) n c xs) {j : Nat} {u : Value} (hu : xs[j]? = some u) : w.cell? ⟨g, off + j, none⟩ = some u :=
  (h.at_ _ rfl).2.2.2.1 j u hu
theorem Row.free {g off : Nat} (h : Row w base size (some ⟨g, off, none⟩) n c xs) {j : Nat} (hj : j < c * size) : w.frozen? ⟨g, off + j, none⟩ = false :=
  ((h.at_ _ rfl).2.2.2.2 j hj).2
/-- 's[i:j]', as the walk writes it. -/
theorem Row.cut (h : Row w base size A n c xs) {i j : Nat} (hij : i ≤ j) (hj : j ≤ n) :
    Row w base size (if c = i then A else A.map (·.add (i * size))) (j - i) (c - i) ((xs.take (j * size)).drop (i * size)) := by
  have hc := h.cap
  have hjs : j * size ≤ n * size := Nat.mul_le_mul_right _ hj
  refine ⟨?_, by omega, ?_, ?_⟩
  · rw [List.length_drop, List.length_take, h.len, Nat.sub_mul]; omega
  · intro hA
    split at hA
    · have := h.nil hA; omega
    · cases A with
      | none => have := h.nil rfl; omega
      | some ad => cases hA
  · intro ad hA
    by_cases hci : c = i
    · rw [if_pos hci] at hA
      obtain ⟨h1, h2, h3, h4, h5⟩ := h.at_ ad hA
      refine ⟨h1, h2, h3, fun t u hu => ?_, fun t ht => ?_⟩
      · have := (List.getElem?_eq_some_iff.1 hu).1
        rw [List.length_drop, List.length_take, h.len] at this
        have : j = i := by omega
        subst this
        omega
      · rw [hci, Nat.sub_self, Nat.zero_mul] at ht; omega
    · rw [if_neg hci] at hA
      cases A with
      | none => cases hA
      | some ad0 =>
        obtain ⟨h1, h2, h3, h4, h5⟩ := h.at_ ad0 rfl
        simp only [Option.map_some, Option.some.injEq] at hA
        rw [add_eta h1] at hA
        subst hA
        refine ⟨rfl, h2, h3, fun t u hu => ?_, fun t ht => ?_⟩
        · rw [List.getElem?_drop, List.getElem?_take] at hu
          split at hu
          · simp only
            rw [Nat.add_assoc]
            exact h4 _ u hu
          · cases hu
        · simp only
          rw [Nat.add_assoc]
          refine h5 _ ?_
          have : (c - i) * size = c * size - i * size := Nat.sub_mul _ _ _
          have : i * size ≤ c * size := Nat.mul_le_mul_right _ (by omega)
          omega
/-- 's[:j]'. -/
theorem Row.to (h : Row w base size A n c xs) {j : Nat} (hj : j ≤ n) : Row w base size A j c (xs.take (j * size)) := by
  have hjs : j * size ≤ n * size := Nat.mul_le_mul_right _ hj
  have hc := h.cap
  refine ⟨by rw [List.length_take, h.len]; omega, by omega, h.nil, fun ad hA => ?_⟩
  obtain ⟨h1, h2, h3, h4, h5⟩ := h.at_ ad hA
  refine ⟨h1, h2, h3, fun t u hu => h4 t u ?_, h5⟩
  rw [List.getElem?_take] at hu
  split at hu
  · exact hu
  · cases hu
/-- 's[i:]'. -/
theorem Row.from_ (h : Row w base size A n c xs) {i : Nat} (hi : i ≤ n) : Row w base size (if c = i then A else A.map (·.add (i * size))) (n - i) (c - i) (xs.drop (i * size)) := by
  have := h.cut (i := i) (j := n) hi (Nat.le_refl _)
  rwa [List.take_of_length_le (by rw [h.len]; exact Nat.le_refl _)] at this
theorem Row.of_owns {e : TypeId} (h : w.ownsRow base e size (.slice A n c) n xs) : Row w base size A n c xs := by
  rcases h.2 with ⟨h', h0⟩ | ⟨g, cap, cur, h', hb, hg, hnc, hcm, hcs, htake⟩
  · simp only [Value.slice.injEq] at h'
    obtain ⟨rfl, rfl, rfl⟩ := h'
    have : xs = [] := List.eq_nil_of_length_eq_zero (by rw [h.1]; omega)
    subst this
    exact Row.none_ _ _ _
  · simp only [Value.slice.injEq, true_and] at h'
    obtain ⟨rfl, rfl⟩ := h'
    refine ⟨h.1, hnc, (fun h => by cases h), fun ad hA => ?_⟩
    obtain rfl := Option.some.inj hA
    refine ⟨rfl, hb, (Array.getElem?_eq_some_iff.1 hg).1, fun j u hu => ?_, fun j hj => ?_⟩
    · rw [Nat.zero_add, cell_of_row w g j cur e (0, 0) hg]
      rw [← htake, List.getElem?_take] at hu
      split at hu
      · simpa using hu
      · cases hu
    · rw [Nat.zero_add, cell_of_row w g j cur e (0, 0) hg]
      refine ⟨?_, by simp [World.frozen?, hg]⟩
      rw [Array.getElem?_eq_getElem (by omega)]; rfl
end

theorem grownBy_setCells (b : Nat) : ∀ (vs : List Value) (o : Nat) (w : World), w.grownBy (w.setCells b o vs) (some b)
  | [], _, w => World.grownBy.refl w _
  | v :: r, o, w => by
    have h1 : w.grownBy (w.setCell ⟨b, o, none⟩ v) (some b) := ⟨rfl, rfl, rfl, by simp [World.setCell], fun i _ hne => Below.heap_setCell w ⟨b, o, none⟩ v i (by rintro rfl; exact hne rfl)⟩
    have h2 := grownBy_setCells b r (o + 1) (w.setCell ⟨b, o, none⟩ v)
    rw [World.setCells]
    exact ⟨h2.os.trans h1.os, h2.tape.trans h1.tape, h2.output.trans h1.output, Nat.le_trans h1.size h2.size, fun i hi hne => (h2.block i (Nat.lt_of_lt_of_le hi h1.size) hne).trans (h1.block i hi hne)⟩
theorem cell?_isSome_setCells (b : Nat) : ∀ (vs : List Value) (o : Nat) (w : World) (x : Addr), (w.cell? x).isSome = true → ((w.setCells b o vs).cell? x).isSome = true
  | [], _, _, _, h => h
  | v :: r, o, w, x, h => by
    rw [World.setCells]
    refine cell?_isSome_setCells b r (o + 1) _ x ?_
    obtain ⟨v', hv⟩ := Option.isSome_iff_exists.1 h
    obtain ⟨u, hu⟩ := cell?_setCell_some (w := w) (p := ⟨b, o, none⟩) (x := v) (q := x) (v := v') hv
    rw [hu]; rfl

/-- What lies ahead of the slice's end is as it was. -/
def Olds (w w' : World) (A : Option Addr) (m : Nat) (full : Prop) : Prop := ∀ p : Addr, p.block < w.heap.size → p.spot = none → (∀ ad, A = some ad → p.block = ad.block → p.off < ad.off + m ∨ full) → w'.cell? p = w.cell? p
theorem olds_of_none {w w' : World} {row : Option Nat} {A : Option Addr} {m : Nat} {full : Prop} (hg : w.grownBy w' row) (h : row = none) : Olds w w' A m full := by
  subst h
  exact fun p hp _ _ => World.cell?_of_block (hg.block p.block hp (by simp))
theorem Olds.two {w w' : World} {g o off m : Nat} {full : Prop} (h : Olds w w' (some ⟨g, o, none⟩) m full) (h1 : off + 1 < o + m ∨ full) {u v : Value}
    (hu : w.cell? ⟨g, off, none⟩ = some u ∧ w.cell? ⟨g, off + 1, none⟩ = some v) : w'.cell? ⟨g, off, none⟩ = some u ∧ w'.cell? ⟨g, off + 1, none⟩ = some v := by
  have hlt := World.block_lt_of_cell? w _ hu.1
  have hlt2 := World.block_lt_of_cell? w _ hu.2
  have e1 := h ⟨g, off, none⟩ hlt rfl (fun ad ha _ => by obtain rfl := Option.some.inj ha; exact h1.imp (fun h => by simp only; omega) id)
  have e2 := h ⟨g, off + 1, none⟩ hlt2 rfl (fun ad ha _ => by obtain rfl := Option.some.inj ha; exact h1.imp (fun h => by simp only; omega) id)
  exact ⟨e1.trans hu.1, e2.trans hu.2⟩
/-- A run of append onto a row, of whatever slice. -/
theorem run_appR {P : Program} {w : World} {base size : Nat} {A : Option Addr} {n c : Nat} {xs : List Value} (hrow : Row w base size A n c xs)
    (t ty e : TypeId) (i : TypeInfo) (z : Value) (bytes : Nat) (ht : P.underlying t = some (.slice e)) (hi : P.info? e = some i) (hz : i.zero = some z) (hsize : i.size = size) (hby : i.bytes = bytes) (hzs : z.cells.size = size) (hsz : 0 < size)
    {B : Option Addr} {m d : Nat} {news : List Value} (hsrc : Src w size B m news) (h1 : ∀ u ∈ news, u.oneCell' = true) (h63 : n + m ≤ maxLen) (hbytes : (n + m) * bytes ≤ 140737488355328) (hbase : base ≤ w.heap.size) :
    ∃ A' c' w', (Builtin.append_ #[t, t] ty #[.slice A n c, .slice B m d]).run P w = .ok (.slice A' (n + m) c') w' ∧ Row w' base size A' (n + m) c' (xs ++ news) ∧ w.grownBy w' (blk A) ∧ (∀ k, blk A' = some k → blk A = some k ∨ w.heap.size ≤ k) ∧ Olds w w' A (n * size) (c < n + m) := by
  have of_own : ∀ (ad : Addr), A = none → (∀ j u, news[j]? = some u → w.cell? (ad.add j) = some u) → w.ownsRow base e size (.slice A n c) n xs → B = some ad →
      ∃ A' c' w', (Builtin.append_ #[t, t] ty #[.slice A n c, .slice B m d]).run P w = .ok (.slice A' (n + m) c') w' ∧ Row w' base size A' (n + m) c' (xs ++ news) ∧ w.grownBy w' (blk A) ∧ (∀ k, blk A' = some k → blk A = some k ∨ w.heap.size ≤ k) ∧ Olds w w' A (n * size) (c < n + m) := by
    intro ad hA hcells hown hB
    subst hB
    obtain ⟨v', w', hrun, h2, h3, h4, h5⟩ := run_append_own_at (P := P) w base t ty e i z size bytes ht hi hz hsize hby hzs hsz _ n xs hown ad m d news hsrc.1 hcells h1 h63 hbytes hbase
    have hform : ∃ A' c', v' = .slice A' (n + m) c' := by
      rcases h2.2 with ⟨hv, hz⟩ | ⟨g, cap, cur, hv, _⟩
      · rw [hz]; exact ⟨none, 0, hv⟩
      · exact ⟨_, _, hv⟩
    obtain ⟨A', c', rfl⟩ := hform
    simp only [blk_own] at h3 h5
    exact ⟨A', c', w', hrun, Row.of_owns h2, h3, fun k hk => h5.elim (fun e => .inl (e ▸ hk)) (fun e => .inr (by rw [e] at hk; injection hk with hk; omega)), olds_of_none h3 (by rw [hA]; rfl)⟩
  cases B with
  | none =>
    have hm : m = 0 := by
      rcases Nat.eq_zero_or_pos m with h0 | h0
      · exact h0
      · obtain ⟨ad, h, _⟩ := hsrc.2 h0
        cases h
    subst hm
    have hn : news = [] := List.eq_nil_of_length_eq_zero (by rw [hsrc.1]; simp)
    subst hn
    refine ⟨A, c, w, ?_, by simpa using hrow, World.grownBy.refl w _, fun _ hk => .inl hk, fun _ _ _ _ => rfl⟩
    cases A with
    | none =>
      have hc0 := hrow.nil rfl
      have hn0 : n = 0 := by have := hrow.cap; omega
      subst hc0; subst hn0
      simp [Builtin.append_, run_underlying ht, sizeOf, typeInfo, hi, Builtin.lenOf, Builtin.firstCells]
    | some ad =>
      have hnc := hrow.cap
      simp [Builtin.append_, run_underlying ht, sizeOf, typeInfo, hi, Builtin.lenOf, Builtin.firstCells, hnc, storeCells]
  | some bd =>
    have hcells : ∀ j u, news[j]? = some u → w.cell? (bd.add j) = some u := by
      intro j u hu
      have hj := (List.getElem?_eq_some_iff.1 hu).1
      rw [hsrc.1] at hj
      have hm : 0 < m := by
        rcases Nat.eq_zero_or_pos m with h0 | h0
        · subst h0; simp at hj
        · exact h0
      obtain ⟨ad', h, _, hc⟩ := hsrc.2 hm
      obtain rfl := Option.some.inj h
      exact hc j u hu
    cases A with
    | none =>
      have hc0 := hrow.nil rfl
      have hn0 : n = 0 := by have := hrow.cap; omega
      subst hc0; subst hn0
      have hx : xs = [] := List.eq_nil_of_length_eq_zero (by rw [hrow.len]; simp)
      subst hx
      exact of_own bd rfl hcells (World.ownsRow_nil _ _ _ _) rfl
    | some ad =>
      obtain ⟨k1, k2, k3, k4, k5⟩ := hrow.at_ ad rfl
      obtain ⟨g, off, sp⟩ := ad
      simp only at k1 k2 k3 k4 k5
      subst k1
      by_cases hroom : n + m ≤ c
      · have hsp : ∀ j, j < news.length → n * i.size + j < c * size := by
          intro j hj
          rw [hsrc.1] at hj
          rw [hsize]
          have : (n + m) * size ≤ c * size := Nat.mul_le_mul_right _ hroom
          rw [Nat.add_mul] at this
          omega
        have hrun := run_append_room_cells (P := P) w t ty e i ht hi g off n c bd m d news (by rw [hsize]; exact hsrc.1) hcells h1 hroom
          (fun j hj => by rw [Nat.add_assoc]; exact (k5 _ (hsp j hj)).1) (fun j hj => by rw [Nat.add_assoc]; exact (k5 _ (hsp j hj)).2)
        have hgr := grownBy_setCells g news (off + n * i.size) w
        refine ⟨_, _, _, hrun, ⟨by rw [List.length_append, hrow.len, hsrc.1, Nat.add_mul], hroom, (fun h => by cases h), fun ad hA => ?_⟩, hgr, fun _ hk => .inl hk, fun p _ hsp' hp => World.cell?_setCells_out _ _ _ _ _ (fun h1 _ => .inl ((hp _ rfl h1).elim (fun h => by rw [hsize]; exact h) (fun h => by omega)))⟩
        obtain rfl := Option.some.inj hA
        refine ⟨rfl, k2, Nat.lt_of_lt_of_le k3 hgr.size, fun j u hu => ?_, fun j hj => ?_⟩
        · simp only
          by_cases hjn : j < xs.length
          · rw [List.getElem?_append_left hjn] at hu
            rw [World.cell?_setCells_out _ _ _ _ _ (fun _ _ => .inl (by simp only; rw [hsize, ← hrow.len]; omega))]
            exact k4 j u hu
          · rw [List.getElem?_append_right (by omega)] at hu
            have hlt := (List.getElem?_eq_some_iff.1 hu).1
            have hv := World.cell?_setCells_in g news (off + n * i.size) w (fun j hj => by rw [Nat.add_assoc]; exact (k5 _ (hsp j hj)).1) (j - xs.length) hlt
            have e1 : off + n * i.size + (j - xs.length) = off + j := by rw [hsize, ← hrow.len]; omega
            rw [e1] at hv
            rw [hv]
            rw [List.getElem?_eq_getElem hlt] at hu
            exact hu
        · exact ⟨cell?_isSome_setCells _ _ _ _ _ (k5 j hj).1, by rw [World.frozen?_setCells]; exact (k5 j hj).2⟩
      · obtain ⟨v', w', hrun, r1, r2⟩ := run_append_arg_grows (P := P) w t ty e i z size bytes ht hi hz hsize hby hzs hsz ⟨g, off, none⟩ n c xs hrow.len (fun j u hu => by rw [Addr.add_lit]; exact k4 j u hu) bd m d news hsrc.1 hcells (by omega) h63 hbytes
        have hform : ∃ A' c', v' = .slice A' (n + m) c' := by
          rcases r1.2 with ⟨hv, hz⟩ | ⟨g', cap', cur', hv, _⟩
          · rw [hz]; exact ⟨none, 0, hv⟩
          · exact ⟨_, _, hv⟩
        obtain ⟨A', c', rfl⟩ := hform
        have hr := Row.of_owns r1
        exact ⟨A', c', w', hrun, hr.mono hbase, ⟨r2.os, r2.tape, r2.output, r2.size, fun k hk _ => r2.block k hk (by simp)⟩, fun k hk => .inr (hr.lt k hk).1, olds_of_none r2 rfl⟩
/-- .. for the walk: at Oper.wp, at a plain region's list, at a step of a region that draws its order. -/
theorem wp_appR {P : Program} {w : World} {o : Oper} {a : Act} {K : Act → World → Prop} {Q : Exit → Act → World → Prop} (s x : Operand) (t : TypeId)
    (ho : o.op = .call { callee := .builtin .append, args := #[s, x], argTypes := #[t, t] })
    (e : TypeId) (i : TypeInfo) (z : Value) (size bytes : Nat) (ht : P.underlying t = some (.slice e)) (hi : P.info? e = some i) (hz : i.zero = some z) (hsize : i.size = size) (hby : i.bytes = bytes) (hzs : z.cells.size = size) (hsz : 0 < size)
    {base : Nat} {A : Option Addr} {n c : Nat} {xs : List Value} (hrow : Row w base size A n c xs) {B : Option Addr} {m d : Nat} {news : List Value} (hsrc : Src w size B m news) (h1 : ∀ u ∈ news, u.oneCell' = true)
    (hs : a.eval s = .slice A n c) (hx : a.eval x = .slice B m d) (N : Nat) (hN : n + m = N) (h63 : N ≤ maxLen) (hbytes : N * bytes ≤ 140737488355328) (hbase : base ≤ w.heap.size)
    (h : ∀ A' c' w', Row w' base size A' N c' (xs ++ news) → w.grownBy w' (blk A) → (∀ k, blk A' = some k → blk A = some k ∨ w.heap.size ≤ k) → Olds w w' A (n * size) (c < N) → K (a.put o.dst (.slice A' N c')) w') :
    o.wp P a w K Q := by
  subst hN
  obtain ⟨A', c', w', hrun, r1, r2, r3, r4⟩ := run_appR (d := d) hrow t o.type e i z bytes ht hi hz hsize hby hzs hsz hsrc h1 h63 hbytes hbase
  unfold Oper.wp execOp
  simp only [ho, resolve, invoke, builtin, Sem.run_bind, Sem.run_pure, Result.andThen_ok, List.map_toArray, List.map_cons, List.map_nil, hs, hx, hrun]
  exact h A' c' w' r1 r2 r3 r4
theorem appR {P : Program} {w : World} {ops : Array Oper} {rest : List Oper} {o : Oper} {a : Act} {Q : Exit → Act → World → Prop} (hgd : o.guard = none) (s x : Operand) (t : TypeId)
    (ho : o.op = .call { callee := .builtin .append, args := #[s, x], argTypes := #[t, t] })
    (e : TypeId) (i : TypeInfo) (z : Value) (size bytes : Nat) (ht : P.underlying t = some (.slice e)) (hi : P.info? e = some i) (hz : i.zero = some z) (hsize : i.size = size) (hby : i.bytes = bytes) (hzs : z.cells.size = size) (hsz : 0 < size)
    {base : Nat} {A : Option Addr} {n c : Nat} {xs : List Value} (hrow : Row w base size A n c xs) {B : Option Addr} {m d : Nat} {news : List Value} (hsrc : Src w size B m news) (h1 : ∀ u ∈ news, u.oneCell' = true)
    (hs : a.eval s = .slice A n c) (hx : a.eval x = .slice B m d) (N : Nat) (hN : n + m = N) (h63 : N ≤ maxLen) (hbytes : N * bytes ≤ 140737488355328) (hbase : base ≤ w.heap.size)
    (h : ∀ A' c' w', Row w' base size A' N c' (xs ++ news) → w.grownBy w' (blk A) → (∀ k, blk A' = some k → blk A = some k ∨ w.heap.size ≤ k) → Olds w w' A (n * size) (c < N) → wpList P ops Q rest (a.put o.dst (.slice A' N c')) w') :
    wpList P ops Q (o :: rest) a w :=
  wpList_plain hgd fun _ hK => wp_appR s x t ho e i z size bytes ht hi hz hsize hby hzs hsz hrow hsrc h1 hs hx N hN h63 hbytes hbase fun A' c' w' r1 r2 r3 r4 => hK _ _ (h A' c' w' r1 r2 r3 r4)
theorem stepR {P : Program} {w : World} {ops : Array Oper} {o : Oper} {a : Act} {K : Act → World → Prop} {Q : Exit → Act → World → Prop} {E : Prop} (hgd : o.guard = none) (s x : Operand) (t : TypeId)
    (ho : o.op = .call { callee := .builtin .append, args := #[s, x], argTypes := #[t, t] })
    (e : TypeId) (i : TypeInfo) (z : Value) (size bytes : Nat) (ht : P.underlying t = some (.slice e)) (hi : P.info? e = some i) (hz : i.zero = some z) (hsize : i.size = size) (hby : i.bytes = bytes) (hzs : z.cells.size = size) (hsz : 0 < size)
    {base : Nat} {A : Option Addr} {n c : Nat} {xs : List Value} (hrow : Row w base size A n c xs) {B : Option Addr} {m d : Nat} {news : List Value} (hsrc : Src w size B m news) (h1 : ∀ u ∈ news, u.oneCell' = true)
    (hs : a.eval s = .slice A n c) (hx : a.eval x = .slice B m d) (N : Nat) (hN : n + m = N) (h63 : N ≤ maxLen) (hbytes : N * bytes ≤ 140737488355328) (hbase : base ≤ w.heap.size)
    (h : ∀ A' c' w', Row w' base size A' N c' (xs ++ news) → w.grownBy w' (blk A) → (∀ k, blk A' = some k → blk A = some k ∨ w.heap.size ≤ k) → Olds w w' A (n * size) (c < N) → K (a.put o.dst (.slice A' N c')) w') :
    if Region.wanted o (yielded ops a.tmps) = true then Oper.wp P o a w K Q else E := by
  have hw : Region.wanted o (yielded ops a.tmps) = true := by simp [Region.wanted, hgd]
  rw [if_pos hw]
  exact wp_appR s x t ho e i z size bytes ht hi hz hsize hby hzs hsz hrow hsrc h1 hs hx N hN h63 hbytes hbase h
theorem Src.drew {w : World} {size m : Nat} {B : Option Addr} {news : List Value} (h : Src w size B m news) : Src w.drew size B m news := h
theorem Row.belowOf {w w' : World} {base size : Nat} {A : Option Addr} {n c : Nat} {xs : List Value} (h : Row w base size A n c xs) (hg : w.grownBy w' (blk A)) (hb : base ≤ w.heap.size) : Below base w w' :=
  (Below.refl _ _).grown hg hb fun k hk => (h.lt k hk).1
/-- Cells that have just been laid in a block of their own. -/
theorem Src.new {w : World} {size m : Nat} {cs : List Value} {t : TypeId} (h : cs.length = m * size) : Src (w.alloc (.cells cs.toArray t)) size (some ⟨w.heap.size, 0, none⟩) m cs :=
  ⟨h, fun _ => ⟨_, rfl, by simp, fun j u hu => by rw [Addr.add_lit, World.cell?_alloc_at _ _ _ _ rfl]; simpa using hu⟩⟩
end

section
open Go.RowKit

section
variable {a b c : World} {row : Option Nat}
theorem only_trans (h : a.grownBy b row) (k : b.grownBy c row) : a.grownBy c row :=
  ⟨k.os.trans h.os, k.tape.trans h.tape, k.output.trans h.output, Nat.le_trans h.size k.size, fun i hi hne => (k.block i (Nat.lt_of_lt_of_le hi h.size) hne).trans (h.block i hi hne)⟩
theorem only_below (h : a.grownBy b row) {B : Nat} (k : Below B b c) (hB : a.heap.size ≤ B) : a.grownBy c row :=
  ⟨k.os.trans h.os, k.tape.trans h.tape, k.output.trans h.output, Nat.le_trans h.size k.size, fun i hi hne => (k.block i (by omega)).trans (h.block i hi hne)⟩
theorem only_setCell {g : Nat} (h : a.grownBy b (some g)) {p : Addr} (hp : p.block = g ∨ a.heap.size ≤ p.block) (u : Value) : a.grownBy (b.setCell p u) (some g) :=
  ⟨h.os, h.tape, h.output, by simpa [World.setCell] using h.size, fun i hi hne => (Below.heap_setCell b p u i (by
    rintro rfl
    rcases hp with hp | hp
    · exact hne (by rw [hp])
    · omega)).trans (h.block i hi hne)⟩
theorem only_of (h : Below a.heap.size a b) (row : Option Nat) : a.grownBy b row := ⟨h.os, h.tape, h.output, h.size, fun i hi _ => h.block i hi⟩
theorem only_drew (h : a.grownBy b row) : a.grownBy b.drew row := ⟨h.os, h.tape, h.output, h.size, h.block⟩
theorem only_alloc (h : a.grownBy b row) (o : Obj) : a.grownBy (b.alloc o) row := only_trans h (World.grownBy_alloc b o row)
theorem below_of_only {B g : Nat} (h : a.grownBy b (some g)) (hB : B ≤ g) (hBa : B ≤ a.heap.size) : Below B a b :=
  ⟨h.os, h.tape, h.output, h.size, fun i hi => h.block i (by omega) (by simp; omega)⟩
end
/-- A block that is known whole. -/
def Blk (w : World) (g : Nat) (t : TypeId) (cs : Array Value) : Prop := w.heap[g]? = some (.cells cs t (0, 0))
section
variable {w w' : World} {g : Nat} {t : TypeId} {cs : Array Value}
theorem Blk.lt (h : Blk w g t cs) : g < w.heap.size := by
  rcases Nat.lt_or_ge g w.heap.size with hlt | hge
  · exact hlt
  · unfold Blk at h; rw [Array.getElem?_eq_none hge] at h; cases h
theorem Blk.cell (h : Blk w g t cs) (i : Nat) : w.cell? ⟨g, i, none⟩ = cs[i]? := cell_of_row w g i cs t (0, 0) h
theorem Blk.frozen (h : Blk w g t cs) (i : Nat) : w.frozen? ⟨g, i, none⟩ = false := by
  unfold Blk at h
  simp [World.frozen?, h]
theorem Blk.new (w : World) (t : TypeId) (cs : Array Value) : Blk (w.alloc (.cells cs t)) w.heap.size t cs := heap_alloc_new w _
theorem Blk.drew (h : Blk w g t cs) : Blk w.drew g t cs := h
theorem Blk.drewN (h : Blk w g t cs) (n : Nat) : Blk (w.drewN n) g t cs := h
theorem Blk.alloc (h : Blk w g t cs) (o : Obj) : Blk (w.alloc o) g t cs := (Below.heap_alloc w o g h.lt).trans h
theorem Blk.set_ (h : Blk w g t cs) (i : Nat) (u : Value) : Blk (w.setCell ⟨g, i, none⟩ u) g t (cs.setIfInBounds i u) := by
  unfold Blk at h ⊢
  simp [World.setCell, Array.getElem?_modify, h]
theorem Blk.far (h : Blk w g t cs) {p : Addr} (hp : g ≠ p.block) (u : Value) : Blk (w.setCell p u) g t cs := (Below.heap_setCell w p u g hp).trans h
theorem Blk.below {B : Nat} (h : Blk w g t cs) (hb : Below B w w') (hg : g < B) : Blk w' g t cs := (hb.block g hg).trans h
theorem Blk.grown {row : Option Nat} (h : Blk w g t cs) (hb : w.grownBy w' row) (hg : some g ≠ row) : Blk w' g t cs := (hb.block g h.lt hg).trans h
end
/-- A row of bools of the call's own. -/
structure OwnB (w : World) (base g n : Nat) (s : List Bool) : Prop where
  blk : Blk w g 4 (s.map Value.bool).toArray
  base : base ≤ g
  len : s.length = n
section
variable {w w' : World} {base g n : Nat} {s : List Bool}
theorem OwnB.cell (h : OwnB w base g n s) {k : Nat} (hk : k < n) : w.cell? ⟨g, k, none⟩ = some (.bool (sat s k)) := by
  rw [h.blk.cell]
  have := h.len
  unfold sat
  rw [List.getElem?_toArray, List.getElem?_map, List.getElem?_eq_getElem (by omega)]
  rfl
theorem OwnB.frozen (h : OwnB w base g n s) (k : Nat) : w.frozen? ⟨g, k, none⟩ = false := h.blk.frozen k
theorem OwnB.lt (h : OwnB w base g n s) : g < w.heap.size := h.blk.lt
theorem OwnB.alloc (h : OwnB w base g n s) (o : Obj) : OwnB (w.alloc o) base g n s := ⟨h.blk.alloc o, h.base, h.len⟩
theorem OwnB.drewN (h : OwnB w base g n s) (k : Nat) : OwnB (w.drewN k) base g n s := ⟨h.blk, h.base, h.len⟩
theorem OwnB.drew (h : OwnB w base g n s) : OwnB w.drew base g n s := ⟨h.blk, h.base, h.len⟩
theorem OwnB.below {B : Nat} (h : OwnB w base g n s) (hb : Below B w w') (hB : g < B) : OwnB w' base g n s := ⟨h.blk.below hb hB, h.base, h.len⟩
theorem OwnB.kept {row : Option Nat} (h : OwnB w base g n s) (hb : w.grownBy w' row) (hr : some g ≠ row) : OwnB w' base g n s := ⟨h.blk.grown hb hr, h.base, h.len⟩
theorem OwnB.far (h : OwnB w base g n s) {p : Addr} (hp : g ≠ p.block) (u : Value) : OwnB (w.setCell p u) base g n s := ⟨h.blk.far hp u, h.base, h.len⟩
theorem OwnB.stored (h : OwnB w base g n s) (k : Nat) (x : Bool) : OwnB (w.setCell ⟨g, k, none⟩ (.bool x)) base g n (s.set k x) := by
  refine ⟨?_, h.base, by simpa using h.len⟩
  have := h.blk.set_ k (.bool x)
  rw [List.map_set]
  simpa using this
end
theorem boolInfo : (Tryd.prog.info? 4).map (fun i => (i.zero, i.size, i.bytes)) = some (some (.bool false), 1, 1) := by kernel_rfl
/-- 'make([]bool, N)', 'make([]int, N)': as equations for the walk. -/
theorem run_makeB (N : Nat) (hN : N ≤ 17592186044416) (w : World) :
    (Instr.makeSlice 84 (.int .i64 (N : Int)) (.int .i64 (N : Int))).run Tryd.prog w = .ok (.slice (some ⟨w.heap.size, 0, none⟩) N N) (w.alloc (.cells ((List.replicate N false).map Value.bool).toArray 4)) := by
  obtain ⟨i0, hi, hz0, hz1, hz2⟩ := info_parts boolInfo
  have hr := run_make (P := Tryd.prog) w 84 4 i0 (.bool false) Tryd.underlying84 hi hz0 .i64 .i64 N N (by omega) (by omega) (by rw [hz2]; omega) (by omega)
  simp only [Int.toNat_natCast] at hr
  rw [hr]
  have hm : madeCells (Value.cells (.bool false)) (N * i0.size) = ((List.replicate N false).map Value.bool).toArray := by
    rw [hz1, Nat.mul_one, List.map_replicate]
    apply Array.ext'
    exact toList_madeCells_one _ _
  rw [hm]
theorem run_makeI (N : Nat) (hN : N ≤ 17592186044416) (w : World) :
    (Instr.makeSlice 35 (.int .i64 (N : Int)) (.int .i64 (N : Int))).run Tryd.prog w = .ok (.slice (some ⟨w.heap.size, 0, none⟩) N N) (w.alloc (.cells ((List.replicate N (0 : Int)).map (Value.int .i64)).toArray 3)) := by
  obtain ⟨i0, hi, hz0, hz1, hz2⟩ := info_parts intInfo
  have hr := run_make (P := Tryd.prog) w 35 3 i0 (.int .i64 0) Tryd.underlying35 hi hz0 .i64 .i64 N N (by omega) (by omega) (by rw [hz2]; omega) (by omega)
  simp only [Int.toNat_natCast] at hr
  rw [hr]
  have hm : madeCells (Value.cells (.int .i64 0)) (N * i0.size) = ((List.replicate N (0 : Int)).map (Value.int .i64)).toArray := by
    rw [hz1, Nat.mul_one, List.map_replicate]
    apply Array.ext'
    exact toList_madeCells_one _ _
  rw [hm]
theorem OwnB.made {w : World} {base : Nat} (hb : base ≤ w.heap.size) (N : Nat) : OwnB (w.alloc (.cells ((List.replicate N false).map Value.bool).toArray 4)) base w.heap.size N (List.replicate N false) :=
  ⟨Blk.new _ _ _, hb, by simp⟩
theorem makeBW {w : World} {ops : Array Oper} {rest : List Oper} {o : Oper} {a : Act} {Q : Exit → Act → World → Prop} (hgd : o.guard = none) (l c : Operand)
    (ho : o.op = .makeSlice 84 l c) (N : Nat) (z : Int) (hl : a.eval l = .int .i64 z) (hc : a.eval c = .int .i64 z) (hz : z = (N : Int)) (hN : N ≤ 17592186044416) {base : Nat} (hbase : base ≤ w.heap.size)
    (h : ∀ w', OwnB w' base w.heap.size N (List.replicate N false) → Below w.heap.size w w' → w'.heap.size = w.heap.size + 1 → wpList Tryd.prog ops Q rest (a.put o.dst (.slice (some ⟨w.heap.size, 0, none⟩) N N)) w') :
    wpList Tryd.prog ops Q (o :: rest) a w := by
  refine wpList_plain hgd fun K hK' => ?_
  have hrun := run_makeB N hN w
  subst hz
  unfold Oper.wp
  have hown := OwnB.made hbase N
  have hb := (Below.refl w.heap.size w).alloc (Nat.le_refl _) (.cells ((List.replicate N false).map Value.bool).toArray 4)
  have hsz : (w.alloc (.cells ((List.replicate N false).map Value.bool).toArray 4)).heap.size = w.heap.size + 1 := by simp
  generalize w.alloc (.cells ((List.replicate N false).map Value.bool).toArray 4) = w' at hrun hown hb hsz
  simp [execOp, ho, hl, hc, hrun, Result.andThen]
  exact hK' _ _ (h w' hown hb hsz)
/-- A row of ints of the call's own, of fixed length. -/
structure OwnI (w : World) (base g n : Nat) (L : List Int) : Prop where
  blk : Blk w g 3 (L.map (Value.int .i64)).toArray
  base : base ≤ g
  len : L.length = n
section
variable {w w' : World} {base g n : Nat} {L : List Int}
theorem OwnI.cell (h : OwnI w base g n L) {k : Nat} {x : Int} (hx : L[k]? = some x) : w.cell? ⟨g, k, none⟩ = some (.int .i64 x) := by
  rw [h.blk.cell, List.getElem?_toArray, List.getElem?_map, hx]
  rfl
theorem OwnI.frozen (h : OwnI w base g n L) (k : Nat) : w.frozen? ⟨g, k, none⟩ = false := h.blk.frozen k
theorem OwnI.lt (h : OwnI w base g n L) : g < w.heap.size := h.blk.lt
theorem OwnI.alloc (h : OwnI w base g n L) (o : Obj) : OwnI (w.alloc o) base g n L := ⟨h.blk.alloc o, h.base, h.len⟩
theorem OwnI.drewN (h : OwnI w base g n L) (k : Nat) : OwnI (w.drewN k) base g n L := ⟨h.blk, h.base, h.len⟩
theorem OwnI.drew (h : OwnI w base g n L) : OwnI w.drew base g n L := ⟨h.blk, h.base, h.len⟩
theorem OwnI.below {B : Nat} (h : OwnI w base g n L) (hb : Below B w w') (hB : g < B) : OwnI w' base g n L := ⟨h.blk.below hb hB, h.base, h.len⟩
theorem OwnI.kept {row : Option Nat} (h : OwnI w base g n L) (hb : w.grownBy w' row) (hr : some g ≠ row) : OwnI w' base g n L := ⟨h.blk.grown hb hr, h.base, h.len⟩
theorem OwnI.far (h : OwnI w base g n L) {p : Addr} (hp : g ≠ p.block) (u : Value) : OwnI (w.setCell p u) base g n L := ⟨h.blk.far hp u, h.base, h.len⟩
theorem OwnI.stored (h : OwnI w base g n L) (k : Nat) (x : Int) : OwnI (w.setCell ⟨g, k, none⟩ (.int .i64 x)) base g n (L.set k x) := by
  refine ⟨?_, h.base, by simpa using h.len⟩
  have := h.blk.set_ k (.int .i64 x)
  rw [List.map_set]
  simpa using this
theorem OwnI.ints (h : OwnI w base g n L) (hn : n ≤ 17592186044416) (hf : ∀ x ∈ L, I64 x) : Ints w (some ⟨g, 0, none⟩) n L :=
  ⟨h.len, hn, hf, fun _ => ⟨_, rfl, h.lt, fun j x hx => by rw [Addr.add_lit, Nat.zero_add]; exact h.cell hx⟩⟩
end
theorem OwnI.made {w : World} {base : Nat} (hb : base ≤ w.heap.size) (N : Nat) : OwnI (w.alloc (.cells ((List.replicate N (0 : Int)).map (Value.int .i64)).toArray 3)) base w.heap.size N (List.replicate N 0) :=
  ⟨Blk.new _ _ _, hb, by simp⟩
theorem makeIW {w : World} {ops : Array Oper} {rest : List Oper} {o : Oper} {a : Act} {Q : Exit → Act → World → Prop} (hgd : o.guard = none) (l c : Operand)
    (ho : o.op = .makeSlice 35 l c) (N : Nat) (z : Int) (hl : a.eval l = .int .i64 z) (hc : a.eval c = .int .i64 z) (hz : z = (N : Int)) (hN : N ≤ 17592186044416) {base : Nat} (hbase : base ≤ w.heap.size)
    (h : ∀ w', OwnI w' base w.heap.size N (List.replicate N 0) → Below w.heap.size w w' → w'.heap.size = w.heap.size + 1 → wpList Tryd.prog ops Q rest (a.put o.dst (.slice (some ⟨w.heap.size, 0, none⟩) N N)) w') :
    wpList Tryd.prog ops Q (o :: rest) a w := by
  refine wpList_plain hgd fun K hK' => ?_
  have hrun := run_makeI N hN w
  subst hz
  unfold Oper.wp
  have hown := OwnI.made hbase N
  have hb := (Below.refl w.heap.size w).alloc (Nat.le_refl _) (.cells ((List.replicate N (0 : Int)).map (Value.int .i64)).toArray 3)
  have hsz : (w.alloc (.cells ((List.replicate N (0 : Int)).map (Value.int .i64)).toArray 3)).heap.size = w.heap.size + 1 := by simp
  generalize w.alloc (.cells ((List.replicate N (0 : Int)).map (Value.int .i64)).toArray 3) = w' at hrun hown hb hsz
  simp [execOp, ho, hl, hc, hrun, Result.andThen]
  exact hK' _ _ (h w' hown hb hsz)
/-- A slice as a value. -/
structure SV where
  A : Option Addr
  n : Nat
  c : Nat
def SV.val (v : SV) : Value := .slice v.A v.n v.c
/-- A slice of slices of ints, all of the call's own. -/
structure Wks (w : World) (base : Nat) (A : Option Addr) (n c : Nat) (vs : List SV) (Ws : List (List Int)) : Prop where
  row : Row w base 1 A n c (vs.map SV.val)
  len : Ws.length = n
  each : ∀ (j : Nat) (v : SV) (W : List Int), vs[j]? = some v → Ws[j]? = some W → Ints w v.A v.n W ∧ v.n ≤ v.c ∧ ∀ k, blk v.A = some k → base ≤ k ∧ k < w.heap.size ∧ blk A ≠ some k
section
variable {w w' : World} {base : Nat} {A : Option Addr} {n c : Nat} {vs : List SV} {Ws : List (List Int)}
theorem Wks.vlen (h : Wks w base A n c vs Ws) : vs.length = n := by have := h.row.len; simpa using this
theorem Wks.nil (w : World) (base : Nat) : Wks w base none 0 0 [] [] := ⟨Row.none_ _ _ _, rfl, by simp⟩
theorem Wks.below (h : Wks w base A n c vs Ws) (hb : Below w.heap.size w w') : Wks w' base A n c vs Ws :=
  ⟨h.row.below hb, h.len, fun j v W hv hW => by obtain ⟨h1, h2, h3⟩ := h.each j v W hv hW; exact ⟨h1.below hb, h2, fun k hk => ⟨(h3 k hk).1, Nat.lt_of_lt_of_le (h3 k hk).2.1 hb.size, (h3 k hk).2.2⟩⟩⟩
theorem Wks.kept {g : Nat} (h : Wks w base A n c vs Ws) (hg : w.grownBy w' (some g)) (hlt : g < base) : Wks w' base A n c vs Ws :=
  ⟨h.row.kept hg (by
    cases hA : blk A with
    | none => exact .inl rfl
    | some k => exact .inr (by have := (h.row.lt k hA).1; simp; omega)), h.len, fun j v W hv hW => by
    obtain ⟨h1, h2, h3⟩ := h.each j v W hv hW
    refine ⟨h1.growG hg (fun a ha => ?_), h2, fun k hk => ⟨(h3 k hk).1, Nat.lt_of_lt_of_le (h3 k hk).2.1 hg.size, (h3 k hk).2.2⟩⟩
    have := (h3 a.block (by rw [ha]; rfl)).1
    simp
    omega⟩
theorem Wks.mono {base' : Nat} (h : Wks w base A n c vs Ws) (hb : base' ≤ base) : Wks w base' A n c vs Ws :=
  ⟨h.row.mono hb, h.len, fun j v W hv hW => by obtain ⟨h1, h2, h3⟩ := h.each j v W hv hW; exact ⟨h1, h2, fun k hk => ⟨by have := (h3 k hk).1; omega, (h3 k hk).2⟩⟩⟩
/-- One slice more. -/
theorem Wks.push {A' : Option Addr} {n' c' : Nat} {v : SV} {W : List Int} (h : Wks w base A n c vs Ws) (hr : Row w' base 1 A' n' c' ((vs ++ [v]).map SV.val)) (hn : n + 1 = n') (hg : w.grownBy w' (blk A)) (hA : ∀ k, blk A' = some k → blk A = some k ∨ w.heap.size ≤ k)
    (hv : Ints w v.A v.n W) (hvc : v.n ≤ v.c) (hb : ∀ k, blk v.A = some k → base ≤ k ∧ k < w.heap.size ∧ blk A ≠ some k) : Wks w' base A' n' c' (vs ++ [v]) (Ws ++ [W]) := by
  refine ⟨hr, by simp [h.len, hn], fun j x X hx hX => ?_⟩
  have key : ∀ (x : SV) (X : List Int), Ints w x.A x.n X → (∀ k, blk x.A = some k → base ≤ k ∧ k < w.heap.size ∧ blk A ≠ some k) → Ints w' x.A x.n X ∧ ∀ k, blk x.A = some k → base ≤ k ∧ k < w'.heap.size ∧ blk A' ≠ some k := by
    intro x X hI hk
    refine ⟨hI.growG hg (fun a ha e => (hk a.block (by rw [ha]; rfl)).2.2 e), fun k hk' => ?_⟩
    obtain ⟨k1, k2, k3⟩ := hk k hk'
    refine ⟨k1, Nat.lt_of_lt_of_le k2 hg.size, fun e => ?_⟩
    rcases hA k e with h | h
    · exact k3 h
    · omega
  by_cases hj : j < vs.length
  · rw [List.getElem?_append_left hj] at hx
    rw [List.getElem?_append_left (by have := h.len; have := h.vlen; omega)] at hX
    obtain ⟨h1, h2, h3⟩ := h.each j x X hx hX
    obtain ⟨k1, k2⟩ := key x X h1 h3
    exact ⟨k1, h2, k2⟩
  · rw [List.getElem?_append_right (by omega)] at hx
    rw [List.getElem?_append_right (by have := h.len; have := h.vlen; omega)] at hX
    have e1 : j - vs.length = 0 := by
      rcases Nat.eq_zero_or_pos (j - vs.length) with h0 | h0
      · exact h0
      · rw [List.getElem?_eq_none (by simp; omega)] at hx; cases hx
    have e2 : j - Ws.length = 0 := by have := h.len; have := h.vlen; omega
    rw [e1] at hx
    rw [e2] at hX
    simp at hx hX
    subst hx; subst hX
    obtain ⟨k1, k2⟩ := key v W hv hb
    exact ⟨k1, hvc, k2⟩
end
end

section
open Go.RowKit
theorem flat_len {α β : Type} (f : α → List β) (k : Nat) (hk : ∀ a, (f a).length = k) : ∀ L : List α, (L.flatMap f).length = L.length * k
  | [] => by simp
  | a :: L => by rw [List.flatMap_cons, List.length_append, hk, flat_len f k hk L, List.length_cons, Nat.add_mul, Nat.one_mul, Nat.add_comm]
theorem flat_at {α β : Type} (f : α → List β) (k : Nat) (hk : ∀ a, (f a).length = k) : ∀ (L : List α) (j i : Nat) (x : α), L[j]? = some x → i < k → (L.flatMap f)[j * k + i]? = (f x)[i]?
  | [], j, _, _, h, _ => by simp at h
  | a :: L, 0, i, x, h, hi => by
    simp only [List.getElem?_cons_zero, Option.some.injEq] at h
    subst h
    rw [List.flatMap_cons, Nat.zero_mul, Nat.zero_add, List.getElem?_append_left (by rw [hk]; exact hi)]
  | a :: L, j + 1, i, x, h, hi => by
    rw [List.getElem?_cons_succ] at h
    rw [List.flatMap_cons, List.getElem?_append_right (by rw [hk, Nat.add_mul, Nat.one_mul]; omega), hk, show (j + 1) * k + i - k = j * k + i by rw [Nat.add_mul, Nat.one_mul]; omega]
    exact flat_at f k hk L j i x h hi
theorem flat_set {α β : Type} (f : α → List β) (k : Nat) (hk : ∀ a, (f a).length = k) : ∀ (L : List α) (j i : Nat) (x x' : α) (u : β), L[j]? = some x → i < k → f x' = (f x).set i u → (L.flatMap f).set (j * k + i) u = (L.set j x').flatMap f
  | [], j, _, _, _, _, h, _, _ => by simp at h
  | a :: L, 0, i, x, x', u, h, hi, he => by
    simp only [List.getElem?_cons_zero, Option.some.injEq] at h
    subst h
    rw [List.flatMap_cons, Nat.zero_mul, Nat.zero_add, List.set_append_left _ _ (by rw [hk]; exact hi), List.set_cons_zero, List.flatMap_cons, he]
  | a :: L, j + 1, i, x, x', u, h, hi, he => by
    rw [List.getElem?_cons_succ] at h
    rw [List.flatMap_cons, List.set_append_right _ _ (by rw [hk, Nat.add_mul, Nat.one_mul]; omega), hk, show (j + 1) * k + i - k = j * k + i by rw [Nat.add_mul, Nat.one_mul]; omega, flat_set f k hk L j i x x' u h hi he, List.set_cons_succ, List.flatMap_cons]
theorem flat_set_same {α β : Type} (f : α → List β) (k : Nat) (hk : ∀ a, (f a).length = k) {L : List α} {j i : Nat} {x x' : α} {u : β} (h : L[j]? = some x) (hi : i < k) (he : f x' = (f x).set i u) {q : Nat} (hq : q = j * k + i) : (L.flatMap f).set q u = (L.set j x').flatMap f := by
  subst hq
  exact flat_set f k hk L j i x x' u h hi he
/-- A store into a row. -/
theorem Row.put {w : World} {base size : Nat} {g off n c : Nat} {xs : List Value} (h : Row w base size (some ⟨g, off, none⟩) n c xs) {q : Nat} (hq : q < n * size) (u : Value) : Row (w.setCell ⟨g, off + q, none⟩ u) base size (some ⟨g, off, none⟩) n c (xs.set q u) := by
  obtain ⟨h1, h2, h3, h4, h5⟩ := h.at_ _ rfl
  simp only [] at h4 h5
  refine ⟨by simpa using h.len, h.cap, h.nil, fun ad ha => ?_⟩
  injection ha with ha
  subst ha
  refine ⟨rfl, h2, by simpa [World.setCell] using h3, fun j v hv => ?_, fun j hj => ?_⟩
  · by_cases e : q = j
    · subst e
      rw [List.getElem?_set_self (by rw [h.len]; exact hq)] at hv
      injection hv with hv
      subst hv
      have hc := (h5 q (by have := h.cap; exact Nat.lt_of_lt_of_le hq (Nat.mul_le_mul_right _ this))).1
      obtain ⟨v0, hv0⟩ := Option.isSome_iff_exists.1 hc
      exact World.cell?_setCell_same _ _ _ hv0
    · rw [List.getElem?_set_ne e] at hv
      rw [World.cell?_setCell_other _ _ _ _ (by intro he; injection he with _ he; simp at he; omega)]
      exact h4 j v hv
  · obtain ⟨k1, k2⟩ := h5 j hj
    refine ⟨?_, ?_⟩
    · by_cases e : q = j
      · subst e
        obtain ⟨v0, hv0⟩ := Option.isSome_iff_exists.1 k1
        rw [World.cell?_setCell_same _ _ _ hv0]; rfl
      · rw [World.cell?_setCell_other _ _ _ _ (by intro he; injection he with _ he; simp at he; omega)]; exact k1
    · rw [World.frozen?_setCell]; exact k2
def ltC (l : Lt) : List Value := [.int .i64 l.kind, .int .i64 l.gate, .int .i64 l.rank, .int .i64 l.id, .int .i64 l.sign, .bool l.over]
theorem ltC_len (l : Lt) : (ltC l).length = 6 := rfl
/-- A slice of letters of the call's own. -/
structure OwnL (w : World) (base : Nat) (A : Option Addr) (n c : Nat) (L : List Lt) : Prop where
  row : Row w base 6 A n c (L.flatMap ltC)
  fits : ∀ x ∈ L, LtOk x
  le : n ≤ 2932031007402
section
variable {w w' : World} {base : Nat} {A : Option Addr} {n c : Nat} {L : List Lt}
theorem OwnL.len (h : OwnL w base A n c L) : L.length = n := by
  have := h.row.len
  rw [flat_len ltC 6 ltC_len] at this
  omega
theorem OwnL.lets (h : OwnL w base A n c L) : Lets w A n L := by
  refine ⟨h.len, h.le, h.fits, fun hn => ?_⟩
  obtain ⟨g, off, rfl, _, hlt⟩ := h.row.form hn
  refine ⟨g, off, rfl, hlt, fun j x hx => ?_⟩
  have key : ∀ i u, i < 6 → (ltC x)[i]? = some u → w.cell? ⟨g, off + (j * 6 + i), none⟩ = some u := fun i u hi hu => h.row.cell (by rw [flat_at ltC 6 ltC_len L j i x hx hi]; exact hu)
  exact ⟨key 0 _ (by omega) rfl, key 1 _ (by omega) rfl, key 2 _ (by omega) rfl, key 3 _ (by omega) rfl, key 4 _ (by omega) rfl, key 5 _ (by omega) rfl⟩
theorem OwnL.next (h : OwnL w base A n c L) (hb : Below w.heap.size w w') : OwnL w' base A n c L := ⟨h.row.below hb, h.fits, h.le⟩
theorem OwnL.alloc (h : OwnL w base A n c L) (o : Obj) : OwnL (w.alloc o) base A n c L := ⟨h.row.alloc o, h.fits, h.le⟩
theorem OwnL.mono {base' : Nat} (h : OwnL w base A n c L) (hb : base' ≤ base) : OwnL w base' A n c L := ⟨h.row.mono hb, h.fits, h.le⟩
theorem OwnL.nil (w : World) (base : Nat) : OwnL w base none 0 0 [] := ⟨Row.none_ _ _ _, by simp, by omega⟩
/-- One field of one letter is stored. -/
theorem OwnL.put {g off : Nat} (h : OwnL w base (some ⟨g, off, none⟩) n c L) {j i q : Nat} {x x' : Lt} {u : Value} (hx : L[j]? = some x) (hi : i < 6) (he : ltC x' = (ltC x).set i u) (hok : LtOk x') (hq : q = j * 6 + i) :
    OwnL (w.setCell ⟨g, off + q, none⟩ u) base (some ⟨g, off, none⟩) n c (L.set j x') := by
  have hj : j < n := by rw [← h.len]; exact (List.getElem?_eq_some_iff.1 hx).1
  refine ⟨?_, fun y hy => ?_, h.le⟩
  · rw [← flat_set_same ltC 6 ltC_len hx hi he hq]
    exact h.row.put (by omega) u
  · rcases List.mem_or_eq_of_mem_set hy with hy | rfl
    · exact h.fits y hy
    · exact hok
end
/-- A whole block of letters. -/
theorem OwnL.block {w : World} {base g : Nat} {L : List Lt} (h : Blk w g 46 (L.flatMap ltC).toArray) (hb : base ≤ g) (hf : ∀ x ∈ L, LtOk x) (hle : L.length ≤ 2932031007402) : OwnL w base (some ⟨g, 0, none⟩) L.length L.length L := by
  refine ⟨⟨flat_len ltC 6 ltC_len L, Nat.le_refl _, fun e => (by cases e), fun ad ha => ?_⟩, hf, hle⟩
  injection ha with ha
  subst ha
  have hc : ∀ j, w.cell? ⟨g, 0 + j, none⟩ = (L.flatMap ltC)[j]? := fun j => by rw [Nat.zero_add, h.cell, List.getElem?_toArray]
  refine ⟨rfl, hb, h.lt, fun j u hu => by rw [hc, hu], fun j hj => ⟨?_, ?_⟩⟩
  · rw [hc, List.getElem?_eq_getElem (by rw [flat_len ltC 6 ltC_len]; exact hj)]; rfl
  · exact h.frozen _
def plC (q : Plc) : List Value := [.int .i64 q.gate, .int .i64 q.left]
theorem plC_len (q : Plc) : (plC q).length = 2 := rfl
structure PlOk (q : Plc) : Prop where
  gate : I64 q.gate
  left : I64 q.left
/-- A slice of places of the call's own. -/
structure OwnQ (w : World) (base : Nat) (A : Option Addr) (n c : Nat) (Q : List Plc) : Prop where
  row : Row w base 2 A n c (Q.flatMap plC)
  fits : ∀ x ∈ Q, PlOk x
section
variable {w w' : World} {base : Nat} {A : Option Addr} {n c : Nat} {Q : List Plc}
theorem OwnQ.len (h : OwnQ w base A n c Q) : Q.length = n := by
  have := h.row.len
  rw [flat_len plC 2 plC_len] at this
  omega
theorem OwnQ.next (h : OwnQ w base A n c Q) (hb : Below w.heap.size w w') : OwnQ w' base A n c Q := ⟨h.row.below hb, h.fits⟩
theorem OwnQ.alloc (h : OwnQ w base A n c Q) (o : Obj) : OwnQ (w.alloc o) base A n c Q := ⟨h.row.alloc o, h.fits⟩
theorem OwnQ.mono {base' : Nat} (h : OwnQ w base A n c Q) (hb : base' ≤ base) : OwnQ w base' A n c Q := ⟨h.row.mono hb, h.fits⟩
theorem OwnQ.nil (w : World) (base : Nat) : OwnQ w base none 0 0 [] := ⟨Row.none_ _ _ _, by simp⟩
theorem OwnQ.cell {g off j : Nat} {x : Plc} (h : OwnQ w base (some ⟨g, off, none⟩) n c Q) (hx : Q[j]? = some x) : w.cell? ⟨g, off + j * 2, none⟩ = some (.int .i64 x.gate) ∧ w.cell? ⟨g, off + j * 2 + 1, none⟩ = some (.int .i64 x.left) :=
  ⟨h.row.cell (j := j * 2 + 0) (by rw [flat_at plC 2 plC_len Q j 0 x hx (by omega)]; rfl), h.row.cell (j := j * 2 + 1) (by rw [flat_at plC 2 plC_len Q j 1 x hx (by omega)]; rfl)⟩
end
/-- Returns out of a result's own block. -/
theorem ret_cellB {P : Program} {fn : Func} {p : Tmp} {ty : TypeId} {R : Ending → World → Prop} {a : Act} {w : World} {g : Nat} {t : TypeId} {cs : Array Value} {fr : Nat × Nat} {d : TypeDesc} (h : fn.results = #[.cell p ty])
    (hp : a.tmps.getD p undef = .pointer (some ⟨g, 0, none⟩)) (hg : w.heap[g]? = some (.cells cs t fr)) (hu : P.underlying ty = some d) (hd : (match d with | .struct _ | .array _ _ => true | _ => false) = true) (hi : (P.info? ty).map (·.size) = some cs.size)
    (hdf : a.defers = []) (hR : R (.returned (.agg cs)) w) : bodyPost P fn R .ret a w := bodyPost_ret (results_cell_row h a.tmps w g t cs fr d hp hg hu hd hi) hdf hR
theorem ret_cellT {P : Program} {fn : Func} {p u : Tmp} {ty : TypeId} {R : Ending → World → Prop} {a : Act} {w : World} {g : Nat} {t : TypeId} {cs : Array Value} {fr : Nat × Nat} {d : TypeDesc} {v : Value} (h : fn.results = #[.cell p ty, .tmp u])
    (hp : a.tmps.getD p undef = .pointer (some ⟨g, 0, none⟩)) (hv : a.tmps.getD u undef = v) (hg : w.heap[g]? = some (.cells cs t fr)) (hu : P.underlying ty = some d) (hd : (match d with | .struct _ | .array _ _ => true | _ => false) = true) (hi : (P.info? ty).map (·.size) = some cs.size)
    (hdf : a.defers = []) (hR : R (.returned (.tuple #[.agg cs, v])) w) : bodyPost P fn R .ret a w := by
  refine bodyPost_ret ?_ hdf hR
  rw [results_cell_tmp h, hp, hv]
  simp [asAddr, run_loadVar_row w g t ty cs fr d hg hu hd hi, Result.andThen]
/-- Struct literals. -/
theorem build_code0 (w : World) : (Instr.build 24 #[]).run Tryd.prog w = .ok (.agg #[.int .i64 0, .slice none 0 0]) w := run_build w _ _ _ (by kernel_rfl)
theorem build_code1 (K : Int) (w : World) : (Instr.build 24 #[(0, .int .i64 K)]).run Tryd.prog w = .ok (.agg #[.int .i64 K, .slice none 0 0]) w := run_build w _ _ _ (by kernel_rfl)
theorem build_code2 (K : Int) (A : Option Addr) (n c : Nat) (w : World) : (Instr.build 24 #[(0, .int .i64 K), (1, .slice A n c)]).run Tryd.prog w = .ok (.agg #[.int .i64 K, .slice A n c]) w := run_build w _ _ _ (by kernel_rfl)
theorem build_pass (g r : Int) (w : World) : (Instr.build 46 #[(0, .int .i64 1), (1, .int .i64 g), (2, .int .i64 r)]).run Tryd.prog w = .ok (ltV ⟨1, g, r, 0, 0, false⟩) w := run_build w _ _ _ (by kernel_rfl)
theorem build_cross (i s : Int) (o : Bool) (w : World) : (Instr.build 46 #[(0, .int .i64 2), (3, .int .i64 i), (5, .bool o), (4, .int .i64 s)]).run Tryd.prog w = .ok (ltV ⟨2, 0, 0, i, s, o⟩) w := run_build w _ _ _ (by kernel_rfl)
theorem build_dia (K : Int) (A : Option Addr) (n c : Nat) (w : World) : (Instr.build 87 #[(0, .agg #[.int .i64 K, .slice A n c])]).run Tryd.prog w = .ok (.agg #[.int .i64 K, .slice A n c, .slice none 0 0, .slice none 0 0, .slice none 0 0, .map none, .slice none 0 0]) w := run_build w _ _ _ (by kernel_rfl)
theorem ltInfo : (Tryd.prog.info? 46).map (fun i => (i.zero, i.size, i.bytes)) = some (some (.agg #[.int .i64 0, .int .i64 0, .int .i64 0, .int .i64 0, .int .i64 0, .bool false]), 6, 48) := by kernel_rfl
/-- Slice literals of letters. -/
theorem buildL2 (a b : Lt) (w : World) : (Instr.buildSlice 22 2 #[(0, ltV a), (1, ltV b)]).run Tryd.prog w = .ok (.slice (some ⟨w.heap.size, 0, none⟩) 2 2) (w.alloc (.cells ([a, b].flatMap ltC).toArray 46)) := by
  obtain ⟨i0, hi, hz0, hz1, hz2⟩ := info_parts ltInfo
  refine run_buildSlice w _ _ 2 _ _ i0 _ Tryd.underlying22 hi hz0 (by rw [hz1]; omega) (by rw [hz1]; omega) ?_
  rw [hz1]
  kernel_rfl
theorem buildL4 (a b c d : Lt) (w : World) : (Instr.buildSlice 22 4 #[(0, ltV a), (1, ltV b), (2, ltV c), (3, ltV d)]).run Tryd.prog w = .ok (.slice (some ⟨w.heap.size, 0, none⟩) 4 4) (w.alloc (.cells ([a, b, c, d].flatMap ltC).toArray 46)) := by
  obtain ⟨i0, hi, hz0, hz1, hz2⟩ := info_parts ltInfo
  refine run_buildSlice w _ _ 4 _ _ i0 _ Tryd.underlying22 hi hz0 (by rw [hz1]; omega) (by rw [hz1]; omega) ?_
  rw [hz1]
  kernel_rfl
end
end Go.Proofs.YtkjcmppaapbabaaDoor
