/-
  Memory words: slices of bools, slices of slices of ints, blocks that are known whole, worlds that differ in one block and in what is new. No condition.
-/
import Derived.Test.YtkjcmppaapbabaaDoorOwnG
import Derived.Test.YtkjcmppaapbabaaDoorRow
namespace Go.Proofs.YtkjcmppaapbabaaDoor
open Go.RowKit

section
variable {a b c : World} {row : Option Nat}
theorem only_trans (h : a.grownBy b row) (k : b.grownBy c row) : a.grownBy c row :=
  ⟨k.os.trans h.os, k.tape.trans h.tape, k.output.trans h.output, Nat.le_trans h.size k.size, fun i hi hne => (k.block i (Nat.lt_of_lt_of_le hi h.size) hne).trans (h.block i hi hne)⟩
theorem only_below (h : a.grownBy b row) {B : Nat} (k : Below B b c) (hB : a.heap.size ≤ B) : a.grownBy c row :=
  ⟨k.os.trans h.os, k.tape.trans h.tape, k.output.trans h.output, Nat.le_trans h.size k.size, fun i hi hne => (k.block i (by omega)).trans (h.block i hi hne)⟩
theorem only_setCell {g : Nat} (h : a.grownBy b (some g)) {p : Addr} (hp : p.block = g ∨ a.heap.size ≤ p.block) (u : Value) : a.grownBy (b.setCell p u) (some g) :=
  ⟨h.os, h.tape, h.output, by simpa [World.setCell] using h.size, fun i hi hne => (Below.heap_setCell b p u i (by
    rintro rfl
    rcases hp with hp | hp
    · exact hne (by rw [hp])
    · omega)).trans (h.block i hi hne)⟩
theorem only_of (h : Below a.heap.size a b) (row : Option Nat) : a.grownBy b row := ⟨h.os, h.tape, h.output, h.size, fun i hi _ => h.block i hi⟩
theorem only_drew (h : a.grownBy b row) : a.grownBy b.drew row := ⟨h.os, h.tape, h.output, h.size, h.block⟩
theorem only_alloc (h : a.grownBy b row) (o : Obj) : a.grownBy (b.alloc o) row := only_trans h (World.grownBy_alloc b o row)
theorem below_of_only {B g : Nat} (h : a.grownBy b (some g)) (hB : B ≤ g) (hBa : B ≤ a.heap.size) : Below B a b :=
  ⟨h.os, h.tape, h.output, h.size, fun i hi => h.block i (by omega) (by simp; omega)⟩
end
/-- A block that is known whole. -/
def Blk (w : World) (g : Nat) (t : TypeId) (cs : Array Value) : Prop := w.heap[g]? = some (.cells cs t (0, 0))
section
variable {w w' : World} {g : Nat} {t : TypeId} {cs : Array Value}
theorem Blk.lt (h : Blk w g t cs) : g < w.heap.size := by
  rcases Nat.lt_or_ge g w.heap.size with hlt | hge
  · exact hlt
  · unfold Blk at h; rw [Array.getElem?_eq_none hge] at h; cases h
theorem Blk.cell (h : Blk w g t cs) (i : Nat) : w.cell? ⟨g, i, none⟩ = cs[i]? := cell_of_row w g i cs t (0, 0) h
theorem Blk.frozen (h : Blk w g t cs) (i : Nat) : w.frozen? ⟨g, i, none⟩ = false := by
  unfold Blk at h
  simp [World.frozen?, h]
theorem Blk.new (w : World) (t : TypeId) (cs : Array Value) : Blk (w.alloc (.cells cs t)) w.heap.size t cs := heap_alloc_new w _
theorem Blk.drew (h : Blk w g t cs) : Blk w.drew g t cs := h
theorem Blk.drewN (h : Blk w g t cs) (n : Nat) : Blk (w.drewN n) g t cs := h
theorem Blk.alloc (h : Blk w g t cs) (o : Obj) : Blk (w.alloc o) g t cs := (Below.heap_alloc w o g h.lt).trans h
theorem Blk.set_ (h : Blk w g t cs) (i : Nat) (u : Value) : Blk (w.setCell ⟨g, i, none⟩ u) g t (cs.setIfInBounds i u) := by
  unfold Blk at h ⊢
  simp [World.setCell, Array.getElem?_modify, h]
theorem Blk.far (h : Blk w g t cs) {p : Addr} (hp : g ≠ p.block) (u : Value) : Blk (w.setCell p u) g t cs := (Below.heap_setCell w p u g hp).trans h
theorem Blk.below {B : Nat} (h : Blk w g t cs) (hb : Below B w w') (hg : g < B) : Blk w' g t cs := (hb.block g hg).trans h
theorem Blk.grown {row : Option Nat} (h : Blk w g t cs) (hb : w.grownBy w' row) (hg : some g ≠ row) : Blk w' g t cs := (hb.block g h.lt hg).trans h
end
/-- A row of bools of the call's own. -/
structure OwnB (w : World) (base g n : Nat) (s : List Bool) : Prop where
  blk : Blk w g 4 (s.map Value.bool).toArray
  base : base ≤ g
  len : s.length = n
section
variable {w w' : World} {base g n : Nat} {s : List Bool}
theorem OwnB.cell (h : OwnB w base g n s) {k : Nat} (hk : k < n) : w.cell? ⟨g, k, none⟩ = some (.bool (sat s k)) := by
  rw [h.blk.cell]
  have := h.len
  unfold sat
  rw [List.getElem?_toArray, List.getElem?_map, List.getElem?_eq_getElem (by omega)]
  rfl
theorem OwnB.frozen (h : OwnB w base g n s) (k : Nat) : w.frozen? ⟨g, k, none⟩ = false := h.blk.frozen k
theorem OwnB.lt (h : OwnB w base g n s) : g < w.heap.size := h.blk.lt
theorem OwnB.alloc (h : OwnB w base g n s) (o : Obj) : OwnB (w.alloc o) base g n s := ⟨h.blk.alloc o, h.base, h.len⟩
theorem OwnB.drewN (h : OwnB w base g n s) (k : Nat) : OwnB (w.drewN k) base g n s := ⟨h.blk, h.base, h.len⟩
theorem OwnB.drew (h : OwnB w base g n s) : OwnB w.drew base g n s := ⟨h.blk, h.base, h.len⟩
theorem OwnB.below {B : Nat} (h : OwnB w base g n s) (hb : Below B w w') (hB : g < B) : OwnB w' base g n s := ⟨h.blk.below hb hB, h.base, h.len⟩
theorem OwnB.kept {row : Option Nat} (h : OwnB w base g n s) (hb : w.grownBy w' row) (hr : some g ≠ row) : OwnB w' base g n s := ⟨h.blk.grown hb hr, h.base, h.len⟩
theorem OwnB.far (h : OwnB w base g n s) {p : Addr} (hp : g ≠ p.block) (u : Value) : OwnB (w.setCell p u) base g n s := ⟨h.blk.far hp u, h.base, h.len⟩
theorem OwnB.stored (h : OwnB w base g n s) (k : Nat) (x : Bool) : OwnB (w.setCell ⟨g, k, none⟩ (.bool x)) base g n (s.set k x) := by
  refine ⟨?_, h.base, by simpa using h.len⟩
  have := h.blk.set_ k (.bool x)
  rw [List.map_set]
  simpa using this
end
theorem boolInfo : (Tryd.prog.info? 4).map (fun i => (i.zero, i.size, i.bytes)) = some (some (.bool false), 1, 1) := by kernel_rfl
/-- 'make([]bool, N)', 'make([]int, N)': as equations for the walk. -/
theorem run_makeB (N : Nat) (hN : N ≤ 17592186044416) (w : World) :
    (Instr.makeSlice 84 (.int .i64 (N : Int)) (.int .i64 (N : Int))).run Tryd.prog w = .ok (.slice (some ⟨w.heap.size, 0, none⟩) N N) (w.alloc (.cells ((List.replicate N false).map Value.bool).toArray 4)) := by
  obtain ⟨i0, hi, hz0, hz1, hz2⟩ := info_parts boolInfo
  have hr := run_make (P := Tryd.prog) w 84 4 i0 (.bool false) Tryd.underlying84 hi hz0 .i64 .i64 N N (by omega) (by omega) (by rw [hz2]; omega) (by omega)
  simp only [Int.toNat_natCast] at hr
  rw [hr]
  have hm : madeCells (Value.cells (.bool false)) (N * i0.size) = ((List.replicate N false).map Value.bool).toArray := by
    rw [hz1, Nat.mul_one, List.map_replicate]
    apply Array.ext'
    exact toList_madeCells_one _ _
  rw [hm]
theorem run_makeI (N : Nat) (hN : N ≤ 17592186044416) (w : World) :
    (Instr.makeSlice 35 (.int .i64 (N : Int)) (.int .i64 (N : Int))).run Tryd.prog w = .ok (.slice (some ⟨w.heap.size, 0, none⟩) N N) (w.alloc (.cells ((List.replicate N (0 : Int)).map (Value.int .i64)).toArray 3)) := by
  obtain ⟨i0, hi, hz0, hz1, hz2⟩ := info_parts intInfo
  have hr := run_make (P := Tryd.prog) w 35 3 i0 (.int .i64 0) Tryd.underlying35 hi hz0 .i64 .i64 N N (by omega) (by omega) (by rw [hz2]; omega) (by omega)
  simp only [Int.toNat_natCast] at hr
  rw [hr]
  have hm : madeCells (Value.cells (.int .i64 0)) (N * i0.size) = ((List.replicate N (0 : Int)).map (Value.int .i64)).toArray := by
    rw [hz1, Nat.mul_one, List.map_replicate]
    apply Array.ext'
    exact toList_madeCells_one _ _
  rw [hm]
theorem OwnB.made {w : World} {base : Nat} (hb : base ≤ w.heap.size) (N : Nat) : OwnB (w.alloc (.cells ((List.replicate N false).map Value.bool).toArray 4)) base w.heap.size N (List.replicate N false) :=
  ⟨Blk.new _ _ _, hb, by simp⟩
theorem makeBW {w : World} {ops : Array Oper} {rest : List Oper} {o : Oper} {a : Act} {Q : Exit → Act → World → Prop} (hgd : o.guard = none) (l c : Operand)
    (ho : o.op = .makeSlice 84 l c) (N : Nat) (z : Int) (hl : a.eval l = .int .i64 z) (hc : a.eval c = .int .i64 z) (hz : z = (N : Int)) (hN : N ≤ 17592186044416) {base : Nat} (hbase : base ≤ w.heap.size)
    (h : ∀ w', OwnB w' base w.heap.size N (List.replicate N false) → Below w.heap.size w w' → w'.heap.size = w.heap.size + 1 → wpList Tryd.prog ops Q rest (a.put o.dst (.slice (some ⟨w.heap.size, 0, none⟩) N N)) w') :
    wpList Tryd.prog ops Q (o :: rest) a w := by
  refine wpList_plain hgd fun K hK' => ?_
  have hrun := run_makeB N hN w
  subst hz
  unfold Oper.wp
  have hown := OwnB.made hbase N
  have hb := (Below.refl w.heap.size w).alloc (Nat.le_refl _) (.cells ((List.replicate N false).map Value.bool).toArray 4)
  have hsz : (w.alloc (.cells ((List.replicate N false).map Value.bool).toArray 4)).heap.size = w.heap.size + 1 := by simp
  generalize w.alloc (.cells ((List.replicate N false).map Value.bool).toArray 4) = w' at hrun hown hb hsz
  simp [execOp, ho, hl, hc, hrun, Result.andThen]
  exact hK' _ _ (h w' hown hb hsz)
/-- A row of ints of the call's own, of fixed length. -/
structure OwnI (w : World) (base g n : Nat) (L : List Int) : Prop where
  blk : Blk w g 3 (L.map (Value.int .i64)).toArray
  base : base ≤ g
  len : L.length = n
section
variable {w w' : World} {base g n : Nat} {L : List Int}
theorem OwnI.cell (h : OwnI w base g n L) {k : Nat} {x : Int} (hx : L[k]? = some x) : w.cell? ⟨g, k, none⟩ = some (.int .i64 x) := by
  rw [h.blk.cell, List.getElem?_toArray, List.getElem?_map, hx]
  rfl
theorem OwnI.frozen (h : OwnI w base g n L) (k : Nat) : w.frozen? ⟨g, k, none⟩ = false := h.blk.frozen k
theorem OwnI.lt (h : OwnI w base g n L) : g < w.heap.size := h.blk.lt
theorem OwnI.alloc (h : OwnI w base g n L) (o : Obj) : OwnI (w.alloc o) base g n L := ⟨h.blk.alloc o, h.base, h.len⟩
theorem OwnI.drewN (h : OwnI w base g n L) (k : Nat) : OwnI (w.drewN k) base g n L := ⟨h.blk, h.base, h.len⟩
theorem OwnI.drew (h : OwnI w base g n L) : OwnI w.drew base g n L := ⟨h.blk, h.base, h.len⟩
theorem OwnI.below {B : Nat} (h : OwnI w base g n L) (hb : Below B w w') (hB : g < B) : OwnI w' base g n L := ⟨h.blk.below hb hB, h.base, h.len⟩
theorem OwnI.kept {row : Option Nat} (h : OwnI w base g n L) (hb : w.grownBy w' row) (hr : some g ≠ row) : OwnI w' base g n L := ⟨h.blk.grown hb hr, h.base, h.len⟩
theorem OwnI.far (h : OwnI w base g n L) {p : Addr} (hp : g ≠ p.block) (u : Value) : OwnI (w.setCell p u) base g n L := ⟨h.blk.far hp u, h.base, h.len⟩
theorem OwnI.stored (h : OwnI w base g n L) (k : Nat) (x : Int) : OwnI (w.setCell ⟨g, k, none⟩ (.int .i64 x)) base g n (L.set k x) := by
  refine ⟨?_, h.base, by simpa using h.len⟩
  have := h.blk.set_ k (.int .i64 x)
  rw [List.map_set]
  simpa using this
theorem OwnI.ints (h : OwnI w base g n L) (hn : n ≤ 17592186044416) (hf : ∀ x ∈ L, I64 x) : Ints w (some ⟨g, 0, none⟩) n L :=
  ⟨h.len, hn, hf, fun _ => ⟨_, rfl, h.lt, fun j x hx => by rw [Addr.add_lit, Nat.zero_add]; exact h.cell hx⟩⟩
end
theorem OwnI.made {w : World} {base : Nat} (hb : base ≤ w.heap.size) (N : Nat) : OwnI (w.alloc (.cells ((List.replicate N (0 : Int)).map (Value.int .i64)).toArray 3)) base w.heap.size N (List.replicate N 0) :=
  ⟨Blk.new _ _ _, hb, by simp⟩
theorem makeIW {w : World} {ops : Array Oper} {rest : List Oper} {o : Oper} {a : Act} {Q : Exit → Act → World → Prop} (hgd : o.guard = none) (l c : Operand)
    (ho : o.op = .makeSlice 35 l c) (N : Nat) (z : Int) (hl : a.eval l = .int .i64 z) (hc : a.eval c = .int .i64 z) (hz : z = (N : Int)) (hN : N ≤ 17592186044416) {base : Nat} (hbase : base ≤ w.heap.size)
    (h : ∀ w', OwnI w' base w.heap.size N (List.replicate N 0) → Below w.heap.size w w' → w'.heap.size = w.heap.size + 1 → wpList Tryd.prog ops Q rest (a.put o.dst (.slice (some ⟨w.heap.size, 0, none⟩) N N)) w') :
    wpList Tryd.prog ops Q (o :: rest) a w := by
  refine wpList_plain hgd fun K hK' => ?_
  have hrun := run_makeI N hN w
  subst hz
  unfold Oper.wp
  have hown := OwnI.made hbase N
  have hb := (Below.refl w.heap.size w).alloc (Nat.le_refl _) (.cells ((List.replicate N (0 : Int)).map (Value.int .i64)).toArray 3)
  have hsz : (w.alloc (.cells ((List.replicate N (0 : Int)).map (Value.int .i64)).toArray 3)).heap.size = w.heap.size + 1 := by simp
  generalize w.alloc (.cells ((List.replicate N (0 : Int)).map (Value.int .i64)).toArray 3) = w' at hrun hown hb hsz
  simp [execOp, ho, hl, hc, hrun, Result.andThen]
  exact hK' _ _ (h w' hown hb hsz)
/-- A slice as a value. -/
structure SV where
  A : Option Addr
  n : Nat
  c : Nat
def SV.val (v : SV) : Value := .slice v.A v.n v.c
/-- A slice of slices of ints, all of the call's own. -/
structure Wks (w : World) (base : Nat) (A : Option Addr) (n c : Nat) (vs : List SV) (Ws : List (List Int)) : Prop where
  row : Row w base 1 A n c (vs.map SV.val)
  len : Ws.length = n
  each : ∀ (j : Nat) (v : SV) (W : List Int), vs[j]? = some v → Ws[j]? = some W → Ints w v.A v.n W ∧ v.n ≤ v.c ∧ ∀ k, blk v.A = some k → base ≤ k ∧ k < w.heap.size ∧ blk A ≠ some k
section
variable {w w' : World} {base : Nat} {A : Option Addr} {n c : Nat} {vs : List SV} {Ws : List (List Int)}
theorem Wks.vlen (h : Wks w base A n c vs Ws) : vs.length = n := by have := h.row.len; simpa using this
theorem Wks.nil (w : World) (base : Nat) : Wks w base none 0 0 [] [] := ⟨Row.none_ _ _ _, rfl, by simp⟩
theorem Wks.below (h : Wks w base A n c vs Ws) (hb : Below w.heap.size w w') : Wks w' base A n c vs Ws :=
  ⟨h.row.below hb, h.len, fun j v W hv hW => by obtain ⟨h1, h2, h3⟩ := h.each j v W hv hW; exact ⟨h1.below hb, h2, fun k hk => ⟨(h3 k hk).1, Nat.lt_of_lt_of_le (h3 k hk).2.1 hb.size, (h3 k hk).2.2⟩⟩⟩
theorem Wks.kept {g : Nat} (h : Wks w base A n c vs Ws) (hg : w.grownBy w' (some g)) (hlt : g < base) : Wks w' base A n c vs Ws :=
  ⟨h.row.kept hg (by
    cases hA : blk A with
    | none => exact .inl rfl
    | some k => exact .inr (by have := (h.row.lt k hA).1; simp; omega)), h.len, fun j v W hv hW => by
    obtain ⟨h1, h2, h3⟩ := h.each j v W hv hW
    refine ⟨h1.growG hg (fun a ha => ?_), h2, fun k hk => ⟨(h3 k hk).1, Nat.lt_of_lt_of_le (h3 k hk).2.1 hg.size, (h3 k hk).2.2⟩⟩
    have := (h3 a.block (by rw [ha]; rfl)).1
    simp
    omega⟩
theorem Wks.mono {base' : Nat} (h : Wks w base A n c vs Ws) (hb : base' ≤ base) : Wks w base' A n c vs Ws :=
  ⟨h.row.mono hb, h.len, fun j v W hv hW => by obtain ⟨h1, h2, h3⟩ := h.each j v W hv hW; exact ⟨h1, h2, fun k hk => ⟨by have := (h3 k hk).1; omega, (h3 k hk).2⟩⟩⟩
/-- One slice more. -/
theorem Wks.push {A' : Option Addr} {n' c' : Nat} {v : SV} {W : List Int} (h : Wks w base A n c vs Ws) (hr : Row w' base 1 A' n' c' ((vs ++ [v]).map SV.val)) (hn : n + 1 = n') (hg : w.grownBy w' (blk A)) (hA : ∀ k, blk A' = some k → blk A = some k ∨ w.heap.size ≤ k)
    (hv : Ints w v.A v.n W) (hvc : v.n ≤ v.c) (hb : ∀ k, blk v.A = some k → base ≤ k ∧ k < w.heap.size ∧ blk A ≠ some k) : Wks w' base A' n' c' (vs ++ [v]) (Ws ++ [W]) := by
  refine ⟨hr, by simp [h.len, hn], fun j x X hx hX => ?_⟩
  have key : ∀ (x : SV) (X : List Int), Ints w x.A x.n X → (∀ k, blk x.A = some k → base ≤ k ∧ k < w.heap.size ∧ blk A ≠ some k) → Ints w' x.A x.n X ∧ ∀ k, blk x.A = some k → base ≤ k ∧ k < w'.heap.size ∧ blk A' ≠ some k := by
    intro x X hI hk
    refine ⟨hI.growG hg (fun a ha e => (hk a.block (by rw [ha]; rfl)).2.2 e), fun k hk' => ?_⟩
    obtain ⟨k1, k2, k3⟩ := hk k hk'
    refine ⟨k1, Nat.lt_of_lt_of_le k2 hg.size, fun e => ?_⟩
    rcases hA k e with h | h
    · exact k3 h
    · omega
  by_cases hj : j < vs.length
  · rw [List.getElem?_append_left hj] at hx
    rw [List.getElem?_append_left (by have := h.len; have := h.vlen; omega)] at hX
    obtain ⟨h1, h2, h3⟩ := h.each j x X hx hX
    obtain ⟨k1, k2⟩ := key x X h1 h3
    exact ⟨k1, h2, k2⟩
  · rw [List.getElem?_append_right (by omega)] at hx
    rw [List.getElem?_append_right (by have := h.len; have := h.vlen; omega)] at hX
    have e1 : j - vs.length = 0 := by
      rcases Nat.eq_zero_or_pos (j - vs.length) with h0 | h0
      · exact h0
      · rw [List.getElem?_eq_none (by simp; omega)] at hx; cases hx
    have e2 : j - Ws.length = 0 := by have := h.len; have := h.vlen; omega
    rw [e1] at hx
    rw [e2] at hX
    simp at hx hX
    subst hx; subst hX
    obtain ⟨k1, k2⟩ := key v W hv hb
    exact ⟨k1, hvc, k2⟩
end
end Go.Proofs.YtkjcmppaapbabaaDoor
