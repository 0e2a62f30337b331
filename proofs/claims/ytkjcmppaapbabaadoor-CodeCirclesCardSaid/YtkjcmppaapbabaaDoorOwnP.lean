/-
  Memory words: own slices of letters and of places; what struct literals build. No condition.
-/
import Derived.Test.YtkjcmppaapbabaaDoorOwnV
import Derived.Test.YtkjcmppaapbabaaDoorK4
import Derived.Great.BuildSlice
import Derived.Laws.StructEq
import Derived.Laws.ResultCell
namespace Go.Proofs.YtkjcmppaapbabaaDoor
open Go.RowKit
theorem flat_len {α β : Type} (f : α → List β) (k : Nat) (hk : ∀ a, (f a).length = k) : ∀ L : List α, (L.flatMap f).length = L.length * k
  | [] => by simp
  | a :: L => by rw [List.flatMap_cons, List.length_append, hk, flat_len f k hk L, List.length_cons, Nat.add_mul, Nat.one_mul, Nat.add_comm]
theorem flat_at {α β : Type} (f : α → List β) (k : Nat) (hk : ∀ a, (f a).length = k) : ∀ (L : List α) (j i : Nat) (x : α), L[j]? = some x → i < k → (L.flatMap f)[j * k + i]? = (f x)[i]?
  | [], j, _, _, h, _ => by simp at h
  | a :: L, 0, i, x, h, hi => by
    simp only [List.getElem?_cons_zero, Option.some.injEq] at h
    subst h
    rw [List.flatMap_cons, Nat.zero_mul, Nat.zero_add, List.getElem?_append_left (by rw [hk]; exact hi)]
  | a :: L, j + 1, i, x, h, hi => by
    rw [List.getElem?_cons_succ] at h
    rw [List.flatMap_cons, List.getElem?_append_right (by rw [hk, Nat.add_mul, Nat.one_mul]; omega), hk, show (j + 1) * k + i - k = j * k + i by rw [Nat.add_mul, Nat.one_mul]; omega]
    exact flat_at f k hk L j i x h hi
theorem flat_set {α β : Type} (f : α → List β) (k : Nat) (hk : ∀ a, (f a).length = k) : ∀ (L : List α) (j i : Nat) (x x' : α) (u : β), L[j]? = some x → i < k → f x' = (f x).set i u → (L.flatMap f).set (j * k + i) u = (L.set j x').flatMap f
  | [], j, _, _, _, _, h, _, _ => by simp at h
  | a :: L, 0, i, x, x', u, h, hi, he => by
    simp only [List.getElem?_cons_zero, Option.some.injEq] at h
    subst h
    rw [List.flatMap_cons, Nat.zero_mul, Nat.zero_add, List.set_append_left _ _ (by rw [hk]; exact hi), List.set_cons_zero, List.flatMap_cons, he]
  | a :: L, j + 1, i, x, x', u, h, hi, he => by
    rw [List.getElem?_cons_succ] at h
    rw [List.flatMap_cons, List.set_append_right _ _ (by rw [hk, Nat.add_mul, Nat.one_mul]; omega), hk, show (j + 1) * k + i - k = j * k + i by rw [Nat.add_mul, Nat.one_mul]; omega, flat_set f k hk L j i x x' u h hi he, List.set_cons_succ, List.flatMap_cons]
theorem flat_set_same {α β : Type} (f : α → List β) (k : Nat) (hk : ∀ a, (f a).length = k) {L : List α} {j i : Nat} {x x' : α} {u : β} (h : L[j]? = some x) (hi : i < k) (he : f x' = (f x).set i u) {q : Nat} (hq : q = j * k + i) : (L.flatMap f).set q u = (L.set j x').flatMap f := by
  subst hq
  exact flat_set f k hk L j i x x' u h hi he
/-- A store into a row. -/
theorem Row.put {w : World} {base size : Nat} {g off n c : Nat} {xs : List Value} (h : Row w base size (some ⟨g, off, none⟩) n c xs) {q : Nat} (hq : q < n * size) (u : Value) : Row (w.setCell ⟨g, off + q, none⟩ u) base size (some ⟨g, off, none⟩) n c (xs.set q u) := by
  obtain ⟨h1, h2, h3, h4, h5⟩ := h.at_ _ rfl
  simp only [] at h4 h5
  refine ⟨by simpa using h.len, h.cap, h.nil, fun ad ha => ?_⟩
  injection ha with ha
  subst ha
  refine ⟨rfl, h2, by simpa [World.setCell] using h3, fun j v hv => ?_, fun j hj => ?_⟩
  · by_cases e : q = j
    · subst e
      rw [List.getElem?_set_self (by rw [h.len]; exact hq)] at hv
      injection hv with hv
      subst hv
      have hc := (h5 q (by have := h.cap; exact Nat.lt_of_lt_of_le hq (Nat.mul_le_mul_right _ this))).1
      obtain ⟨v0, hv0⟩ := Option.isSome_iff_exists.1 hc
      exact World.cell?_setCell_same _ _ _ hv0
    · rw [List.getElem?_set_ne e] at hv
      rw [World.cell?_setCell_other _ _ _ _ (by intro he; injection he with _ he; simp at he; omega)]
      exact h4 j v hv
  · obtain ⟨k1, k2⟩ := h5 j hj
    refine ⟨?_, ?_⟩
    · by_cases e : q = j
      · subst e
        obtain ⟨v0, hv0⟩ := Option.isSome_iff_exists.1 k1
        rw [World.cell?_setCell_same _ _ _ hv0]; rfl
      · rw [World.cell?_setCell_other _ _ _ _ (by intro he; injection he with _ he; simp at he; omega)]; exact k1
    · rw [World.frozen?_setCell]; exact k2
def ltC (l : Lt) : List Value := [.int .i64 l.kind, .int .i64 l.gate, .int .i64 l.rank, .int .i64 l.id, .int .i64 l.sign, .bool l.over]
theorem ltC_len (l : Lt) : (ltC l).length = 6 := rfl
/-- A slice of letters of the call's own. -/
structure OwnL (w : World) (base : Nat) (A : Option Addr) (n c : Nat) (L : List Lt) : Prop where
  row : Row w base 6 A n c (L.flatMap ltC)
  fits : ∀ x ∈ L, LtOk x
  le : n ≤ 2932031007402
section
variable {w w' : World} {base : Nat} {A : Option Addr} {n c : Nat} {L : List Lt}
theorem OwnL.len (h : OwnL w base A n c L) : L.length = n := by
  have := h.row.len
  rw [flat_len ltC 6 ltC_len] at this
  omega
theorem OwnL.lets (h : OwnL w base A n c L) : Lets w A n L := by
  refine ⟨h.len, h.le, h.fits, fun hn => ?_⟩
  obtain ⟨g, off, rfl, _, hlt⟩ := h.row.form hn
  refine ⟨g, off, rfl, hlt, fun j x hx => ?_⟩
  have key : ∀ i u, i < 6 → (ltC x)[i]? = some u → w.cell? ⟨g, off + (j * 6 + i), none⟩ = some u := fun i u hi hu => h.row.cell (by rw [flat_at ltC 6 ltC_len L j i x hx hi]; exact hu)
  exact ⟨key 0 _ (by omega) rfl, key 1 _ (by omega) rfl, key 2 _ (by omega) rfl, key 3 _ (by omega) rfl, key 4 _ (by omega) rfl, key 5 _ (by omega) rfl⟩
theorem OwnL.next (h : OwnL w base A n c L) (hb : Below w.heap.size w w') : OwnL w' base A n c L := ⟨h.row.below hb, h.fits, h.le⟩
theorem OwnL.alloc (h : OwnL w base A n c L) (o : Obj) : OwnL (w.alloc o) base A n c L := ⟨h.row.alloc o, h.fits, h.le⟩
theorem OwnL.mono {base' : Nat} (h : OwnL w base A n c L) (hb : base' ≤ base) : OwnL w base' A n c L := ⟨h.row.mono hb, h.fits, h.le⟩
theorem OwnL.nil (w : World) (base : Nat) : OwnL w base none 0 0 [] := ⟨Row.none_ _ _ _, by simp, by omega⟩
/-- One field of one letter is stored. -/
theorem OwnL.put {g off : Nat} (h : OwnL w base (some ⟨g, off, none⟩) n c L) {j i q : Nat} {x x' : Lt} {u : Value} (hx : L[j]? = some x) (hi : i < 6) (he : ltC x' = (ltC x).set i u) (hok : LtOk x') (hq : q = j * 6 + i) :
    OwnL (w.setCell ⟨g, off + q, none⟩ u) base (some ⟨g, off, none⟩) n c (L.set j x') := by
  have hj : j < n := by rw [← h.len]; exact (List.getElem?_eq_some_iff.1 hx).1
  refine ⟨?_, fun y hy => ?_, h.le⟩
  · rw [← flat_set_same ltC 6 ltC_len hx hi he hq]
    exact h.row.put (by omega) u
  · rcases List.mem_or_eq_of_mem_set hy with hy | rfl
    · exact h.fits y hy
    · exact hok
end
/-- A whole block of letters. -/
theorem OwnL.block {w : World} {base g : Nat} {L : List Lt} (h : Blk w g 46 (L.flatMap ltC).toArray) (hb : base ≤ g) (hf : ∀ x ∈ L, LtOk x) (hle : L.length ≤ 2932031007402) : OwnL w base (some ⟨g, 0, none⟩) L.length L.length L := by
  refine ⟨⟨flat_len ltC 6 ltC_len L, Nat.le_refl _, fun e => (by cases e), fun ad ha => ?_⟩, hf, hle⟩
  injection ha with ha
  subst ha
  have hc : ∀ j, w.cell? ⟨g, 0 + j, none⟩ = (L.flatMap ltC)[j]? := fun j => by rw [Nat.zero_add, h.cell, List.getElem?_toArray]
  refine ⟨rfl, hb, h.lt, fun j u hu => by rw [hc, hu], fun j hj => ⟨?_, ?_⟩⟩
  · rw [hc, List.getElem?_eq_getElem (by rw [flat_len ltC 6 ltC_len]; exact hj)]; rfl
  · exact h.frozen _
def plC (q : Plc) : List Value := [.int .i64 q.gate, .int .i64 q.left]
theorem plC_len (q : Plc) : (plC q).length = 2 := rfl
structure PlOk (q : Plc) : Prop where
  gate : I64 q.gate
  left : I64 q.left
/-- A slice of places of the call's own. -/
structure OwnQ (w : World) (base : Nat) (A : Option Addr) (n c : Nat) (Q : List Plc) : Prop where
  row : Row w base 2 A n c (Q.flatMap plC)
  fits : ∀ x ∈ Q, PlOk x
section
variable {w w' : World} {base : Nat} {A : Option Addr} {n c : Nat} {Q : List Plc}
theorem OwnQ.len (h : OwnQ w base A n c Q) : Q.length = n := by
  have := h.row.len
  rw [flat_len plC 2 plC_len] at this
  omega
theorem OwnQ.next (h : OwnQ w base A n c Q) (hb : Below w.heap.size w w') : OwnQ w' base A n c Q := ⟨h.row.below hb, h.fits⟩
theorem OwnQ.alloc (h : OwnQ w base A n c Q) (o : Obj) : OwnQ (w.alloc o) base A n c Q := ⟨h.row.alloc o, h.fits⟩
theorem OwnQ.mono {base' : Nat} (h : OwnQ w base A n c Q) (hb : base' ≤ base) : OwnQ w base' A n c Q := ⟨h.row.mono hb, h.fits⟩
theorem OwnQ.nil (w : World) (base : Nat) : OwnQ w base none 0 0 [] := ⟨Row.none_ _ _ _, by simp⟩
theorem OwnQ.cell {g off j : Nat} {x : Plc} (h : OwnQ w base (some ⟨g, off, none⟩) n c Q) (hx : Q[j]? = some x) : w.cell? ⟨g, off + j * 2, none⟩ = some (.int .i64 x.gate) ∧ w.cell? ⟨g, off + j * 2 + 1, none⟩ = some (.int .i64 x.left) :=
  ⟨h.row.cell (j := j * 2 + 0) (by rw [flat_at plC 2 plC_len Q j 0 x hx (by omega)]; rfl), h.row.cell (j := j * 2 + 1) (by rw [flat_at plC 2 plC_len Q j 1 x hx (by omega)]; rfl)⟩
end
/-- Returns out of a result's own block. -/
theorem ret_cellB {P : Program} {fn : Func} {p : Tmp} {ty : TypeId} {R : Ending → World → Prop} {a : Act} {w : World} {g : Nat} {t : TypeId} {cs : Array Value} {fr : Nat × Nat} {d : TypeDesc} (h : fn.results = #[.cell p ty])
    (hp : a.tmps.getD p undef = .pointer (some ⟨g, 0, none⟩)) (hg : w.heap[g]? = some (.cells cs t fr)) (hu : P.underlying ty = some d) (hd : (match d with | .struct _ | .array _ _ => true | _ => false) = true) (hi : (P.info? ty).map (·.size) = some cs.size)
    (hdf : a.defers = []) (hR : R (.returned (.agg cs)) w) : bodyPost P fn R .ret a w := bodyPost_ret (results_cell_row h a.tmps w g t cs fr d hp hg hu hd hi) hdf hR
theorem ret_cellT {P : Program} {fn : Func} {p u : Tmp} {ty : TypeId} {R : Ending → World → Prop} {a : Act} {w : World} {g : Nat} {t : TypeId} {cs : Array Value} {fr : Nat × Nat} {d : TypeDesc} {v : Value} (h : fn.results = #[.cell p ty, .tmp u])
    (hp : a.tmps.getD p undef = .pointer (some ⟨g, 0, none⟩)) (hv : a.tmps.getD u undef = v) (hg : w.heap[g]? = some (.cells cs t fr)) (hu : P.underlying ty = some d) (hd : (match d with | .struct _ | .array _ _ => true | _ => false) = true) (hi : (P.info? ty).map (·.size) = some cs.size)
    (hdf : a.defers = []) (hR : R (.returned (.tuple #[.agg cs, v])) w) : bodyPost P fn R .ret a w := by
  refine bodyPost_ret ?_ hdf hR
  rw [results_cell_tmp h, hp, hv]
  simp [asAddr, run_loadVar_row w g t ty cs fr d hg hu hd hi, Result.andThen]
/-- Struct literals. -/
theorem build_code0 (w : World) : (Instr.build 24 #[]).run Tryd.prog w = .ok (.agg #[.int .i64 0, .slice none 0 0]) w := run_build w _ _ _ (by kernel_rfl)
theorem build_code1 (K : Int) (w : World) : (Instr.build 24 #[(0, .int .i64 K)]).run Tryd.prog w = .ok (.agg #[.int .i64 K, .slice none 0 0]) w := run_build w _ _ _ (by kernel_rfl)
theorem build_code2 (K : Int) (A : Option Addr) (n c : Nat) (w : World) : (Instr.build 24 #[(0, .int .i64 K), (1, .slice A n c)]).run Tryd.prog w = .ok (.agg #[.int .i64 K, .slice A n c]) w := run_build w _ _ _ (by kernel_rfl)
theorem build_pass (g r : Int) (w : World) : (Instr.build 46 #[(0, .int .i64 1), (1, .int .i64 g), (2, .int .i64 r)]).run Tryd.prog w = .ok (ltV ⟨1, g, r, 0, 0, false⟩) w := run_build w _ _ _ (by kernel_rfl)
theorem build_cross (i s : Int) (o : Bool) (w : World) : (Instr.build 46 #[(0, .int .i64 2), (3, .int .i64 i), (5, .bool o), (4, .int .i64 s)]).run Tryd.prog w = .ok (ltV ⟨2, 0, 0, i, s, o⟩) w := run_build w _ _ _ (by kernel_rfl)
theorem build_dia (K : Int) (A : Option Addr) (n c : Nat) (w : World) : (Instr.build 87 #[(0, .agg #[.int .i64 K, .slice A n c])]).run Tryd.prog w = .ok (.agg #[.int .i64 K, .slice A n c, .slice none 0 0, .slice none 0 0, .slice none 0 0, .map none, .slice none 0 0]) w := run_build w _ _ _ (by kernel_rfl)
theorem ltInfo : (Tryd.prog.info? 46).map (fun i => (i.zero, i.size, i.bytes)) = some (some (.agg #[.int .i64 0, .int .i64 0, .int .i64 0, .int .i64 0, .int .i64 0, .bool false]), 6, 48) := by kernel_rfl
/-- Slice literals of letters. -/
theorem buildL2 (a b : Lt) (w : World) : (Instr.buildSlice 22 2 #[(0, ltV a), (1, ltV b)]).run Tryd.prog w = .ok (.slice (some ⟨w.heap.size, 0, none⟩) 2 2) (w.alloc (.cells ([a, b].flatMap ltC).toArray 46)) := by
  obtain ⟨i0, hi, hz0, hz1, hz2⟩ := info_parts ltInfo
  refine run_buildSlice w _ _ 2 _ _ i0 _ Tryd.underlying22 hi hz0 (by rw [hz1]; omega) (by rw [hz1]; omega) ?_
  rw [hz1]
  kernel_rfl
theorem buildL4 (a b c d : Lt) (w : World) : (Instr.buildSlice 22 4 #[(0, ltV a), (1, ltV b), (2, ltV c), (3, ltV d)]).run Tryd.prog w = .ok (.slice (some ⟨w.heap.size, 0, none⟩) 4 4) (w.alloc (.cells ([a, b, c, d].flatMap ltC).toArray 46)) := by
  obtain ⟨i0, hi, hz0, hz1, hz2⟩ := info_parts ltInfo
  refine run_buildSlice w _ _ 4 _ _ i0 _ Tryd.underlying22 hi hz0 (by rw [hz1]; omega) (by rw [hz1]; omega) ?_
  rw [hz1]
  kernel_rfl
end Go.Proofs.YtkjcmppaapbabaaDoor
