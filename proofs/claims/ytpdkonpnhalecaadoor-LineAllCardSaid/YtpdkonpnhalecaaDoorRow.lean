/-
  A slice of any element type that lies in a block of the call's own, at any place in it: the word 'Row', over any program; its cuts, stores and appends. No condition.
-/
import Derived.Test.YtpdkonpnhalecaaDoorOwn
import Derived.ArgAppend
namespace Go.Proofs.YtpdkonpnhalecaaDoor
open Go.RowKit

/-- The slice '.slice A n c' lies in a block from base on (or is nil), its cells up to the capacity may be written, and its elements are the cells xs. -/
structure Row (w : World) (base size : Nat) (A : Option Addr) (n c : Nat) (xs : List Value) : Prop where
  len : xs.length = n * size
  cap : n ≤ c
  nil : A = none → c = 0
  at_ : ∀ ad, A = some ad → ad.spot = none ∧ base ≤ ad.block ∧ ad.block < w.heap.size ∧ (∀ j u, xs[j]? = some u → w.cell? ⟨ad.block, ad.off + j, none⟩ = some u) ∧
    ∀ j, j < c * size → (w.cell? ⟨ad.block, ad.off + j, none⟩).isSome = true ∧ w.frozen? ⟨ad.block, ad.off + j, none⟩ = false
/-- The slice '.slice B m c' reads as the cells news. -/
def Src (w : World) (size : Nat) (B : Option Addr) (m : Nat) (news : List Value) : Prop :=
  news.length = m * size ∧ (0 < m → ∃ ad, B = some ad ∧ ad.block < w.heap.size ∧ ∀ j u, news[j]? = some u → w.cell? (ad.add j) = some u)

theorem addr_eta {ad : Addr} (h : ad.spot = none) : ad = ⟨ad.block, ad.off, none⟩ := by cases ad; simp at h; subst h; rfl
theorem add_eta {ad : Addr} (h : ad.spot = none) (j : Nat) : ad.add j = ⟨ad.block, ad.off + j, none⟩ := by
  rw [addr_eta h]; exact Addr.add_lit _ _ _

section
variable {w w' : World} {base size : Nat} {A : Option Addr} {n c : Nat} {xs : List Value}
theorem Row.none_ (w : World) (base size : Nat) : Row w base size none 0 0 [] := ⟨by simp, Nat.le_refl _, fun _ => rfl, fun _ h => by cases h⟩
theorem Row.lt (h : Row w base size A n c xs) : ∀ k, blk A = some k → base ≤ k ∧ k < w.heap.size := by
  intro k hk
  cases A with
  | none => cases hk
  | some ad =>
    simp only [blk, Option.some.injEq] at hk
    subst hk
    obtain ⟨_, h1, h2, _⟩ := h.at_ ad rfl
    exact ⟨h1, h2⟩
theorem Row.kept {row : Option Nat} (h : Row w base size A n c xs) (hg : w.grownBy w' row) (hne : blk A = none ∨ blk A ≠ row) : Row w' base size A n c xs := by
  refine ⟨h.len, h.cap, h.nil, fun ad ha => ?_⟩
  obtain ⟨h1, h2, h3, h4, h5⟩ := h.at_ ad ha
  subst ha
  have hb : w'.heap[ad.block]? = w.heap[ad.block]? := hg.block _ h3 (hne.resolve_left (by simp [blk]))
  refine ⟨h1, h2, Nat.lt_of_lt_of_le h3 hg.size, fun j u hu => ?_, fun j hj => ?_⟩
  · rw [World.cell?_of_block (w := w) (w' := w') (a := ⟨ad.block, ad.off + j, none⟩) hb]; exact h4 j u hu
  · rw [World.cell?_of_block (w := w) (w' := w') (a := ⟨ad.block, ad.off + j, none⟩) hb, World.frozen?_of_block (w := w) (w' := w') (a := ⟨ad.block, ad.off + j, none⟩) hb]; exact h5 j hj
theorem Row.below (h : Row w base size A n c xs) (hb : Below w.heap.size w w') : Row w' base size A n c xs := by
  refine h.kept (row := none) ⟨hb.os, hb.tape, hb.output, hb.size, fun k hk _ => hb.block k hk⟩ ?_
  cases blk A
  · exact .inl rfl
  · exact .inr (by simp)
theorem Row.alloc (h : Row w base size A n c xs) (o : Obj) : Row (w.alloc o) base size A n c xs := h.below ((Below.refl _ _).alloc (Nat.le_refl _) o)
theorem Row.drew (h : Row w base size A n c xs) : Row w.drew base size A n c xs := h.below (Below.refl _ _).drew
theorem Row.drewN (h : Row w base size A n c xs) (k : Nat) : Row (w.drewN k) base size A n c xs := h.below (below_drewN (Below.refl _ _) k)
theorem Row.mono {base' : Nat} (h : Row w base size A n c xs) (hb : base' ≤ base) : Row w base' size A n c xs :=
  ⟨h.len, h.cap, h.nil, fun ad ha => by obtain ⟨h1, h2, h3⟩ := h.at_ ad ha; exact ⟨h1, by omega, h3⟩⟩
theorem Row.src (h : Row w base size A n c xs) : Src w size A n xs := by
  refine ⟨h.len, fun hn => ?_⟩
  cases A with
  | none => have := h.nil rfl; have := h.cap; omega
  | some ad =>
    obtain ⟨h1, h2, h3, h4, _⟩ := h.at_ ad rfl
    exact ⟨ad, rfl, h3, fun j u hu => by rw [add_eta h1]; exact h4 j u hu⟩
/-- Where there is an element, the address is known. -/
theorem Row.form (h : Row w base size A n c xs) (hn : 0 < n) : ∃ g off, A = some ⟨g, off, none⟩ ∧ base ≤ g ∧ g < w.heap.size := by
  cases A with
  | none => have := h.nil rfl; have := h.cap; omega
  | some ad =>
    obtain ⟨h1, h2, h3, _⟩ := h.at_ ad rfl
    exact ⟨ad.block, ad.off, by rw [← addr_eta h1], h2, h3⟩
theorem Row.cell {g off : Nat} (h : Row w base size (some ⟨g, off, none⟩) n c xs) {j : Nat} {u : Value} (hu : xs[j]? = some u) : w.cell? ⟨g, off + j, none⟩ = some u :=
  (h.at_ _ rfl).2.2.2.1 j u hu
theorem Row.free {g off : Nat} (h : Row w base size (some ⟨g, off, none⟩) n c xs) {j : Nat} (hj : j < c * size) : w.frozen? ⟨g, off + j, none⟩ = false :=
  ((h.at_ _ rfl).2.2.2.2 j hj).2
/-- 's[i:j]', as the walk writes it. -/
theorem Row.cut (h : Row w base size A n c xs) {i j : Nat} (hij : i ≤ j) (hj : j ≤ n) :
    Row w base size (if c = i then A else A.map (·.add (i * size))) (j - i) (c - i) ((xs.take (j * size)).drop (i * size)) := by
  have hc := h.cap
  have hjs : j * size ≤ n * size := Nat.mul_le_mul_right _ hj
  refine ⟨?_, by omega, ?_, ?_⟩
  · rw [List.length_drop, List.length_take, h.len, Nat.sub_mul]; omega
  · intro hA
    split at hA
    · have := h.nil hA; omega
    · cases A with
      | none => have := h.nil rfl; omega
      | some ad => cases hA
  · intro ad hA
    by_cases hci : c = i
    · rw [if_pos hci] at hA
      obtain ⟨h1, h2, h3, h4, h5⟩ := h.at_ ad hA
      refine ⟨h1, h2, h3, fun t u hu => ?_, fun t ht => ?_⟩
      · have := (List.getElem?_eq_some_iff.1 hu).1
        rw [List.length_drop, List.length_take, h.len] at this
        have : j = i := by omega
        subst this
        omega
      · rw [hci, Nat.sub_self, Nat.zero_mul] at ht; omega
    · rw [if_neg hci] at hA
      cases A with
      | none => cases hA
      | some ad0 =>
        obtain ⟨h1, h2, h3, h4, h5⟩ := h.at_ ad0 rfl
        simp only [Option.map_some, Option.some.injEq] at hA
        rw [add_eta h1] at hA
        subst hA
        refine ⟨rfl, h2, h3, fun t u hu => ?_, fun t ht => ?_⟩
        · rw [List.getElem?_drop, List.getElem?_take] at hu
          split at hu
          · simp only
            rw [Nat.add_assoc]
            exact h4 _ u hu
          · cases hu
        · simp only
          rw [Nat.add_assoc]
          refine h5 _ ?_
          have : (c - i) * size = c * size - i * size := Nat.sub_mul _ _ _
          have : i * size ≤ c * size := Nat.mul_le_mul_right _ (by omega)
          omega
/-- 's[:j]'. -/
theorem Row.to (h : Row w base size A n c xs) {j : Nat} (hj : j ≤ n) : Row w base size A j c (xs.take (j * size)) := by
  have hjs : j * size ≤ n * size := Nat.mul_le_mul_right _ hj
  have hc := h.cap
  refine ⟨by rw [List.length_take, h.len]; omega, by omega, h.nil, fun ad hA => ?_⟩
  obtain ⟨h1, h2, h3, h4, h5⟩ := h.at_ ad hA
  refine ⟨h1, h2, h3, fun t u hu => h4 t u ?_, h5⟩
  rw [List.getElem?_take] at hu
  split at hu
  · exact hu
  · cases hu
/-- 's[i:]'. -/
theorem Row.from_ (h : Row w base size A n c xs) {i : Nat} (hi : i ≤ n) : Row w base size (if c = i then A else A.map (·.add (i * size))) (n - i) (c - i) (xs.drop (i * size)) := by
  have := h.cut (i := i) (j := n) hi (Nat.le_refl _)
  rwa [List.take_of_length_le (by rw [h.len]; exact Nat.le_refl _)] at this
theorem Row.of_owns {e : TypeId} (h : w.ownsRow base e size (.slice A n c) n xs) : Row w base size A n c xs := by
  rcases h.2 with ⟨h', h0⟩ | ⟨g, cap, cur, h', hb, hg, hnc, hcm, hcs, htake⟩
  · simp only [Value.slice.injEq] at h'
    obtain ⟨rfl, rfl, rfl⟩ := h'
    have : xs = [] := List.eq_nil_of_length_eq_zero (by rw [h.1]; omega)
    subst this
    exact Row.none_ _ _ _
  · simp only [Value.slice.injEq, true_and] at h'
    obtain ⟨rfl, rfl⟩ := h'
    refine ⟨h.1, hnc, (fun h => by cases h), fun ad hA => ?_⟩
    obtain rfl := Option.some.inj hA
    refine ⟨rfl, hb, (Array.getElem?_eq_some_iff.1 hg).1, fun j u hu => ?_, fun j hj => ?_⟩
    · rw [Nat.zero_add, cell_of_row w g j cur e (0, 0) hg]
      rw [← htake, List.getElem?_take] at hu
      split at hu
      · simpa using hu
      · cases hu
    · rw [Nat.zero_add, cell_of_row w g j cur e (0, 0) hg]
      refine ⟨?_, by simp [World.frozen?, hg]⟩
      rw [Array.getElem?_eq_getElem (by omega)]; rfl
end

theorem grownBy_setCells (b : Nat) : ∀ (vs : List Value) (o : Nat) (w : World), w.grownBy (w.setCells b o vs) (some b)
  | [], _, w => World.grownBy.refl w _
  | v :: r, o, w => by
    have h1 : w.grownBy (w.setCell ⟨b, o, none⟩ v) (some b) := ⟨rfl, rfl, rfl, by simp [World.setCell], fun i _ hne => Below.heap_setCell w ⟨b, o, none⟩ v i (by rintro rfl; exact hne rfl)⟩
    have h2 := grownBy_setCells b r (o + 1) (w.setCell ⟨b, o, none⟩ v)
    rw [World.setCells]
    exact ⟨h2.os.trans h1.os, h2.tape.trans h1.tape, h2.output.trans h1.output, Nat.le_trans h1.size h2.size, fun i hi hne => (h2.block i (Nat.lt_of_lt_of_le hi h1.size) hne).trans (h1.block i hi hne)⟩
theorem cell?_isSome_setCells (b : Nat) : ∀ (vs : List Value) (o : Nat) (w : World) (x : Addr), (w.cell? x).isSome = true → ((w.setCells b o vs).cell? x).isSome = true
  | [], _, _, _, h => h
  | v :: r, o, w, x, h => by
    rw [World.setCells]
    refine cell?_isSome_setCells b r (o + 1) _ x ?_
    obtain ⟨v', hv⟩ := Option.isSome_iff_exists.1 h
    obtain ⟨u, hu⟩ := cell?_setCell_some (w := w) (p := ⟨b, o, none⟩) (x := v) (q := x) (v := v') hv
    rw [hu]; rfl

/-- What lies ahead of the slice's end is as it was. -/
def Olds (w w' : World) (A : Option Addr) (m : Nat) (full : Prop) : Prop := ∀ p : Addr, p.block < w.heap.size → p.spot = none → (∀ ad, A = some ad → p.block = ad.block → p.off < ad.off + m ∨ full) → w'.cell? p = w.cell? p
theorem olds_of_none {w w' : World} {row : Option Nat} {A : Option Addr} {m : Nat} {full : Prop} (hg : w.grownBy w' row) (h : row = none) : Olds w w' A m full := by
  subst h
  exact fun p hp _ _ => World.cell?_of_block (hg.block p.block hp (by simp))
theorem Olds.two {w w' : World} {g o off m : Nat} {full : Prop} (h : Olds w w' (some ⟨g, o, none⟩) m full) (h1 : off + 1 < o + m ∨ full) {u v : Value}
    (hu : w.cell? ⟨g, off, none⟩ = some u ∧ w.cell? ⟨g, off + 1, none⟩ = some v) : w'.cell? ⟨g, off, none⟩ = some u ∧ w'.cell? ⟨g, off + 1, none⟩ = some v := by
  have hlt := World.block_lt_of_cell? w _ hu.1
  have hlt2 := World.block_lt_of_cell? w _ hu.2
  have e1 := h ⟨g, off, none⟩ hlt rfl (fun ad ha _ => by obtain rfl := Option.some.inj ha; exact h1.imp (fun h => by simp only; omega) id)
  have e2 := h ⟨g, off + 1, none⟩ hlt2 rfl (fun ad ha _ => by obtain rfl := Option.some.inj ha; exact h1.imp (fun h => by simp only; omega) id)
  exact ⟨e1.trans hu.1, e2.trans hu.2⟩
/-- A run of append onto a row, of whatever slice. -/
theorem run_appR {P : Program} {w : World} {base size : Nat} {A : Option Addr} {n c : Nat} {xs : List Value} (hrow : Row w base size A n c xs)
    (t ty e : TypeId) (i : TypeInfo) (z : Value) (bytes : Nat) (ht : P.underlying t = some (.slice e)) (hi : P.info? e = some i) (hz : i.zero = some z) (hsize : i.size = size) (hby : i.bytes = bytes) (hzs : z.cells.size = size) (hsz : 0 < size)
    {B : Option Addr} {m d : Nat} {news : List Value} (hsrc : Src w size B m news) (h1 : ∀ u ∈ news, u.oneCell' = true) (h63 : n + m ≤ maxLen) (hbytes : (n + m) * bytes ≤ 140737488355328) (hbase : base ≤ w.heap.size) :
    ∃ A' c' w', (Builtin.append_ #[t, t] ty #[.slice A n c, .slice B m d]).run P w = .ok (.slice A' (n + m) c') w' ∧ Row w' base size A' (n + m) c' (xs ++ news) ∧ w.grownBy w' (blk A) ∧ (∀ k, blk A' = some k → blk A = some k ∨ w.heap.size ≤ k) ∧ Olds w w' A (n * size) (c < n + m) := by
  have of_own : ∀ (ad : Addr), A = none → (∀ j u, news[j]? = some u → w.cell? (ad.add j) = some u) → w.ownsRow base e size (.slice A n c) n xs → B = some ad →
      ∃ A' c' w', (Builtin.append_ #[t, t] ty #[.slice A n c, .slice B m d]).run P w = .ok (.slice A' (n + m) c') w' ∧ Row w' base size A' (n + m) c' (xs ++ news) ∧ w.grownBy w' (blk A) ∧ (∀ k, blk A' = some k → blk A = some k ∨ w.heap.size ≤ k) ∧ Olds w w' A (n * size) (c < n + m) := by
    intro ad hA hcells hown hB
    subst hB
    obtain ⟨v', w', hrun, h2, h3, h4, h5⟩ := run_append_own_at (P := P) w base t ty e i z size bytes ht hi hz hsize hby hzs hsz _ n xs hown ad m d news hsrc.1 hcells h1 h63 hbytes hbase
    have hform : ∃ A' c', v' = .slice A' (n + m) c' := by
      rcases h2.2 with ⟨hv, hz⟩ | ⟨g, cap, cur, hv, _⟩
      · rw [hz]; exact ⟨none, 0, hv⟩
      · exact ⟨_, _, hv⟩
    obtain ⟨A', c', rfl⟩ := hform
    simp only [blk_own] at h3 h5
    exact ⟨A', c', w', hrun, Row.of_owns h2, h3, fun k hk => h5.elim (fun e => .inl (e ▸ hk)) (fun e => .inr (by rw [e] at hk; injection hk with hk; omega)), olds_of_none h3 (by rw [hA]; rfl)⟩
  cases B with
  | none =>
    have hm : m = 0 := by
      rcases Nat.eq_zero_or_pos m with h0 | h0
      · exact h0
      · obtain ⟨ad, h, _⟩ := hsrc.2 h0
        cases h
    subst hm
    have hn : news = [] := List.eq_nil_of_length_eq_zero (by rw [hsrc.1]; simp)
    subst hn
    refine ⟨A, c, w, ?_, by simpa using hrow, World.grownBy.refl w _, fun _ hk => .inl hk, fun _ _ _ _ => rfl⟩
    cases A with
    | none =>
      have hc0 := hrow.nil rfl
      have hn0 : n = 0 := by have := hrow.cap; omega
      subst hc0; subst hn0
      simp [Builtin.append_, run_underlying ht, sizeOf, typeInfo, hi, Builtin.lenOf, Builtin.firstCells]
    | some ad =>
      have hnc := hrow.cap
      simp [Builtin.append_, run_underlying ht, sizeOf, typeInfo, hi, Builtin.lenOf, Builtin.firstCells, hnc, storeCells]
  | some bd =>
    have hcells : ∀ j u, news[j]? = some u → w.cell? (bd.add j) = some u := by
      intro j u hu
      have hj := (List.getElem?_eq_some_iff.1 hu).1
      rw [hsrc.1] at hj
      have hm : 0 < m := by
        rcases Nat.eq_zero_or_pos m with h0 | h0
        · subst h0; simp at hj
        · exact h0
      obtain ⟨ad', h, _, hc⟩ := hsrc.2 hm
      obtain rfl := Option.some.inj h
      exact hc j u hu
    cases A with
    | none =>
      have hc0 := hrow.nil rfl
      have hn0 : n = 0 := by have := hrow.cap; omega
      subst hc0; subst hn0
      have hx : xs = [] := List.eq_nil_of_length_eq_zero (by rw [hrow.len]; simp)
      subst hx
      exact of_own bd rfl hcells (World.ownsRow_nil _ _ _ _) rfl
    | some ad =>
      obtain ⟨k1, k2, k3, k4, k5⟩ := hrow.at_ ad rfl
      obtain ⟨g, off, sp⟩ := ad
      simp only at k1 k2 k3 k4 k5
      subst k1
      by_cases hroom : n + m ≤ c
      · have hsp : ∀ j, j < news.length → n * i.size + j < c * size := by
          intro j hj
          rw [hsrc.1] at hj
          rw [hsize]
          have : (n + m) * size ≤ c * size := Nat.mul_le_mul_right _ hroom
          rw [Nat.add_mul] at this
          omega
        have hrun := run_append_room_cells (P := P) w t ty e i ht hi g off n c bd m d news (by rw [hsize]; exact hsrc.1) hcells h1 hroom
          (fun j hj => by rw [Nat.add_assoc]; exact (k5 _ (hsp j hj)).1) (fun j hj => by rw [Nat.add_assoc]; exact (k5 _ (hsp j hj)).2)
        have hgr := grownBy_setCells g news (off + n * i.size) w
        refine ⟨_, _, _, hrun, ⟨by rw [List.length_append, hrow.len, hsrc.1, Nat.add_mul], hroom, (fun h => by cases h), fun ad hA => ?_⟩, hgr, fun _ hk => .inl hk, fun p _ hsp' hp => World.cell?_setCells_out _ _ _ _ _ (fun h1 _ => .inl ((hp _ rfl h1).elim (fun h => by rw [hsize]; exact h) (fun h => by omega)))⟩
        obtain rfl := Option.some.inj hA
        refine ⟨rfl, k2, Nat.lt_of_lt_of_le k3 hgr.size, fun j u hu => ?_, fun j hj => ?_⟩
        · simp only
          by_cases hjn : j < xs.length
          · rw [List.getElem?_append_left hjn] at hu
            rw [World.cell?_setCells_out _ _ _ _ _ (fun _ _ => .inl (by simp only; rw [hsize, ← hrow.len]; omega))]
            exact k4 j u hu
          · rw [List.getElem?_append_right (by omega)] at hu
            have hlt := (List.getElem?_eq_some_iff.1 hu).1
            have hv := World.cell?_setCells_in g news (off + n * i.size) w (fun j hj => by rw [Nat.add_assoc]; exact (k5 _ (hsp j hj)).1) (j - xs.length) hlt
            have e1 : off + n * i.size + (j - xs.length) = off + j := by rw [hsize, ← hrow.len]; omega
            rw [e1] at hv
            rw [hv]
            rw [List.getElem?_eq_getElem hlt] at hu
            exact hu
        · exact ⟨cell?_isSome_setCells _ _ _ _ _ (k5 j hj).1, by rw [World.frozen?_setCells]; exact (k5 j hj).2⟩
      · obtain ⟨v', w', hrun, r1, r2⟩ := run_append_arg_grows (P := P) w t ty e i z size bytes ht hi hz hsize hby hzs hsz ⟨g, off, none⟩ n c xs hrow.len (fun j u hu => by rw [Addr.add_lit]; exact k4 j u hu) bd m d news hsrc.1 hcells (by omega) h63 hbytes
        have hform : ∃ A' c', v' = .slice A' (n + m) c' := by
          rcases r1.2 with ⟨hv, hz⟩ | ⟨g', cap', cur', hv, _⟩
          · rw [hz]; exact ⟨none, 0, hv⟩
          · exact ⟨_, _, hv⟩
        obtain ⟨A', c', rfl⟩ := hform
        have hr := Row.of_owns r1
        exact ⟨A', c', w', hrun, hr.mono hbase, ⟨r2.os, r2.tape, r2.output, r2.size, fun k hk _ => r2.block k hk (by simp)⟩, fun k hk => .inr (hr.lt k hk).1, olds_of_none r2 rfl⟩
/-- .. for the walk: at Oper.wp, at a plain region's list, at a step of a region that draws its order. -/
theorem wp_appR {P : Program} {w : World} {o : Oper} {a : Act} {K : Act → World → Prop} {Q : Exit → Act → World → Prop} (s x : Operand) (t : TypeId)
    (ho : o.op = .call { callee := .builtin .append, args := #[s, x], argTypes := #[t, t] })
    (e : TypeId) (i : TypeInfo) (z : Value) (size bytes : Nat) (ht : P.underlying t = some (.slice e)) (hi : P.info? e = some i) (hz : i.zero = some z) (hsize : i.size = size) (hby : i.bytes = bytes) (hzs : z.cells.size = size) (hsz : 0 < size)
    {base : Nat} {A : Option Addr} {n c : Nat} {xs : List Value} (hrow : Row w base size A n c xs) {B : Option Addr} {m d : Nat} {news : List Value} (hsrc : Src w size B m news) (h1 : ∀ u ∈ news, u.oneCell' = true)
    (hs : a.eval s = .slice A n c) (hx : a.eval x = .slice B m d) (N : Nat) (hN : n + m = N) (h63 : N ≤ maxLen) (hbytes : N * bytes ≤ 140737488355328) (hbase : base ≤ w.heap.size)
    (h : ∀ A' c' w', Row w' base size A' N c' (xs ++ news) → w.grownBy w' (blk A) → (∀ k, blk A' = some k → blk A = some k ∨ w.heap.size ≤ k) → Olds w w' A (n * size) (c < N) → K (a.put o.dst (.slice A' N c')) w') :
    o.wp P a w K Q := by
  subst hN
  obtain ⟨A', c', w', hrun, r1, r2, r3, r4⟩ := run_appR (d := d) hrow t o.type e i z bytes ht hi hz hsize hby hzs hsz hsrc h1 h63 hbytes hbase
  unfold Oper.wp execOp
  simp only [ho, resolve, invoke, builtin, Sem.run_bind, Sem.run_pure, Result.andThen_ok, List.map_toArray, List.map_cons, List.map_nil, hs, hx, hrun]
  exact h A' c' w' r1 r2 r3 r4
theorem appR {P : Program} {w : World} {ops : Array Oper} {rest : List Oper} {o : Oper} {a : Act} {Q : Exit → Act → World → Prop} (hgd : o.guard = none) (s x : Operand) (t : TypeId)
    (ho : o.op = .call { callee := .builtin .append, args := #[s, x], argTypes := #[t, t] })
    (e : TypeId) (i : TypeInfo) (z : Value) (size bytes : Nat) (ht : P.underlying t = some (.slice e)) (hi : P.info? e = some i) (hz : i.zero = some z) (hsize : i.size = size) (hby : i.bytes = bytes) (hzs : z.cells.size = size) (hsz : 0 < size)
    {base : Nat} {A : Option Addr} {n c : Nat} {xs : List Value} (hrow : Row w base size A n c xs) {B : Option Addr} {m d : Nat} {news : List Value} (hsrc : Src w size B m news) (h1 : ∀ u ∈ news, u.oneCell' = true)
    (hs : a.eval s = .slice A n c) (hx : a.eval x = .slice B m d) (N : Nat) (hN : n + m = N) (h63 : N ≤ maxLen) (hbytes : N * bytes ≤ 140737488355328) (hbase : base ≤ w.heap.size)
    (h : ∀ A' c' w', Row w' base size A' N c' (xs ++ news) → w.grownBy w' (blk A) → (∀ k, blk A' = some k → blk A = some k ∨ w.heap.size ≤ k) → Olds w w' A (n * size) (c < N) → wpList P ops Q rest (a.put o.dst (.slice A' N c')) w') :
    wpList P ops Q (o :: rest) a w :=
  wpList_plain hgd fun _ hK => wp_appR s x t ho e i z size bytes ht hi hz hsize hby hzs hsz hrow hsrc h1 hs hx N hN h63 hbytes hbase fun A' c' w' r1 r2 r3 r4 => hK _ _ (h A' c' w' r1 r2 r3 r4)
theorem stepR {P : Program} {w : World} {ops : Array Oper} {o : Oper} {a : Act} {K : Act → World → Prop} {Q : Exit → Act → World → Prop} {E : Prop} (hgd : o.guard = none) (s x : Operand) (t : TypeId)
    (ho : o.op = .call { callee := .builtin .append, args := #[s, x], argTypes := #[t, t] })
    (e : TypeId) (i : TypeInfo) (z : Value) (size bytes : Nat) (ht : P.underlying t = some (.slice e)) (hi : P.info? e = some i) (hz : i.zero = some z) (hsize : i.size = size) (hby : i.bytes = bytes) (hzs : z.cells.size = size) (hsz : 0 < size)
    {base : Nat} {A : Option Addr} {n c : Nat} {xs : List Value} (hrow : Row w base size A n c xs) {B : Option Addr} {m d : Nat} {news : List Value} (hsrc : Src w size B m news) (h1 : ∀ u ∈ news, u.oneCell' = true)
    (hs : a.eval s = .slice A n c) (hx : a.eval x = .slice B m d) (N : Nat) (hN : n + m = N) (h63 : N ≤ maxLen) (hbytes : N * bytes ≤ 140737488355328) (hbase : base ≤ w.heap.size)
    (h : ∀ A' c' w', Row w' base size A' N c' (xs ++ news) → w.grownBy w' (blk A) → (∀ k, blk A' = some k → blk A = some k ∨ w.heap.size ≤ k) → Olds w w' A (n * size) (c < N) → K (a.put o.dst (.slice A' N c')) w') :
    if Region.wanted o (yielded ops a.tmps) = true then Oper.wp P o a w K Q else E := by
  have hw : Region.wanted o (yielded ops a.tmps) = true := by simp [Region.wanted, hgd]
  rw [if_pos hw]
  exact wp_appR s x t ho e i z size bytes ht hi hz hsize hby hzs hsz hrow hsrc h1 hs hx N hN h63 hbytes hbase h
theorem Src.drew {w : World} {size m : Nat} {B : Option Addr} {news : List Value} (h : Src w size B m news) : Src w.drew size B m news := h
theorem Row.belowOf {w w' : World} {base size : Nat} {A : Option Addr} {n c : Nat} {xs : List Value} (h : Row w base size A n c xs) (hg : w.grownBy w' (blk A)) (hb : base ≤ w.heap.size) : Below base w w' :=
  (Below.refl _ _).grown hg hb fun k hk => (h.lt k hk).1
/-- Cells that have just been laid in a block of their own. -/
theorem Src.new {w : World} {size m : Nat} {cs : List Value} {t : TypeId} (h : cs.length = m * size) : Src (w.alloc (.cells cs.toArray t)) size (some ⟨w.heap.size, 0, none⟩) m cs :=
  ⟨h, fun _ => ⟨_, rfl, by simp, fun j u hu => by rw [Addr.add_lit, World.cell?_alloc_at _ _ _ _ rfl]; simpa using hu⟩⟩
end Go.Proofs.YtpdkonpnhalecaaDoor
