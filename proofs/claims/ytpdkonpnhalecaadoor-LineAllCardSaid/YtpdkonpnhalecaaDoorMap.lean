/-
  A map that the call itself has made, as the list of its entries: the word 'KMap', over any program and key type. No condition.
-/
import Derived.Test.YtpdkonpnhalecaaDoorRow
import Derived.Maps.OwnOps
import Derived.DeepKeys4
namespace Go.Proofs.YtpdkonpnhalecaaDoor
open Go.RowKit
open Go.Maps (Keyed)

/-- Block b is a map with just these entries, in order; each key is one. -/
def KMap (w : World) (P : Program) (k : TypeId) (b : Nat) (kv : List (Value × Value)) : Prop :=
  ∃ es clock, w.heap[b]? = some (.map es clock) ∧ es.toList.map (fun e => (e.key, e.val)) = kv ∧ ∀ p ∈ kv, ∃ l, keyOf P k p.1 = some l

section
variable {P : Program} {w w' : World} {k : TypeId} {b : Nat} {kv : List (Value × Value)}
theorem KMap.made (w : World) (P : Program) (k : TypeId) : KMap (w.alloc (.map #[] 0)) P k w.heap.size [] :=
  ⟨#[], 0, (MapKept.heap_alloc w _).1, rfl, by simp⟩
theorem KMap.lt (h : KMap w P k b kv) : b < w.heap.size := by
  obtain ⟨es, clock, hb, _⟩ := h
  exact (Array.getElem?_eq_some_iff.1 hb).1
theorem KMap.kept {row : Option Nat} (h : KMap w P k b kv) (hg : w.grownBy w' row) (hne : some b ≠ row) : KMap w' P k b kv := by
  have hlt := h.lt
  obtain ⟨es, clock, hb, r⟩ := h
  exact ⟨es, clock, (hg.block b hlt hne).trans hb, r⟩
theorem KMap.below {B : Nat} (h : KMap w P k b kv) (hb : Below B w w') (hB : b < B) : KMap w' P k b kv := by
  obtain ⟨es, clock, hh, r⟩ := h
  exact ⟨es, clock, (hb.block b hB).trans hh, r⟩
theorem KMap.drewN (h : KMap w P k b kv) (n : Nat) : KMap (w.drewN n) P k b kv := h
theorem KMap.drew (h : KMap w P k b kv) : KMap w.drew P k b kv := h
theorem KMap.alloc (h : KMap w P k b kv) (o : Obj) : KMap (w.alloc o) P k b kv := h.below ((Below.refl _ _).alloc (Nat.le_refl _) o) h.lt
theorem KMap.setCell (h : KMap w P k b kv) {p : Addr} (hp : b ≠ p.block) (u : Value) : KMap (w.setCell p u) P k b kv := by
  obtain ⟨es, clock, hh, r⟩ := h
  exact ⟨es, clock, (Below.heap_setCell w p u b hp).trans hh, r⟩
/-- What a search finds. -/
theorem KMap.find (K : Keyed P k) {es : Array MapEntry} (he : es.toList.map (fun e => (e.key, e.val)) = kv) (hk : ∀ p ∈ kv, ∃ l, keyOf P k p.1 = some l) {key : Value} {l : Lit} (hkey : keyOf P k key = some l) (w : World) :
    ((Instr.findKey k key es.toList).run P w = .ok none w ∧ ∀ p ∈ kv, p.1 ≠ key) ∨ ∃ (j : Nat) (v : Value), (Instr.findKey k key es.toList).run P w = .ok (some (j, v)) w ∧ kv[j]? = some (key, v) := by
  have hes : ∀ e ∈ es.toList, ∃ l, keyOf P k e.key = some l := fun e hm => hk (e.key, e.val) (by rw [← he]; exact List.mem_map.2 ⟨e, hm, rfl⟩)
  rcases K.find w hkey es.toList hes with ⟨h1, h2⟩ | ⟨j, e, h1, h2, h3⟩
  · refine .inl ⟨h1, fun p hp => ?_⟩
    rw [← he] at hp
    obtain ⟨e, hm, rfl⟩ := List.mem_map.1 hp
    exact h2 e hm
  · refine .inr ⟨j, e.val, h1, ?_⟩
    rw [← he, List.getElem?_map, h2, ← h3]
    rfl
/-- 'm[k]', without ok. -/
theorem KMap.look (h : KMap w P k b kv) (K : Keyed P k) {t e : TypeId} (ht : P.underlying t = some (.map k e)) {z : Value} (hz : (zeroValue e).run P w = .ok z w) {key : Value} {l : Lit} (hkey : keyOf P k key = some l) :
    ((Instr.lookup t (.map (some b)) key false).run P w = .ok z w ∧ ∀ p ∈ kv, p.1 ≠ key) ∨ ∃ (j : Nat) (v : Value), (Instr.lookup t (.map (some b)) key false).run P w = .ok v w ∧ kv[j]? = some (key, v) := by
  obtain ⟨es, clock, hb, he, hk⟩ := h
  rcases KMap.find K he hk hkey w with ⟨h1, h2⟩ | ⟨j, v, h1, h2⟩
  · exact .inl ⟨by simp [Instr.lookup, run_underlying ht, MapKept.run_getObj_map hb, Result.andThen, K.check w _ hkey, h1, hz], h2⟩
  · exact .inr ⟨j, v, by simp [Instr.lookup, run_underlying ht, MapKept.run_getObj_map hb, Result.andThen, K.check w _ hkey, h1], h2⟩
/-- 'm[k] = v', the key new. -/
theorem KMap.push (h : KMap w P k b kv) (K : Keyed P k) {t e : TypeId} (ht : P.underlying t = some (.map k e)) {key val : Value} {l : Lit} (hkey : keyOf P k key = some l) (hnew : ∀ p ∈ kv, p.1 ≠ key) :
    ∃ w', (Instr.mapUpdate t (.map (some b)) key val).run P w = .ok () w' ∧ KMap w' P k b (kv ++ [(key, val)]) ∧ w.grownBy w' (some b) := by
  obtain ⟨es, clock, hb, he, hk⟩ := h
  rcases KMap.find K he hk hkey w with ⟨h1, _⟩ | ⟨j, v, _, h2⟩
  · refine ⟨ChangeMaps.setBlock w b (.map (es.push { key, val, born := clock }) (clock + 1)), by simp [Instr.mapUpdate, run_underlying ht, MapKept.run_getObj_map hb, K.check w _ hkey, h1, MapKept.run_setObj_map _ hb, Result.andThen, ChangeMaps.setBlock], ?_, ?_⟩
    · refine ⟨_, _, ChangeMaps.heap_setBlock_same hb _, by simp [← he], fun p hp => ?_⟩
      rcases List.mem_append.1 hp with hp | hp
      · exact hk p hp
      · simp at hp; subst hp; exact ⟨l, hkey⟩
    · exact ⟨rfl, rfl, rfl, by simp [ChangeMaps.setBlock], fun i _ hi => ChangeMaps.heap_setBlock_other hb _ (fun e => hi (by rw [e]))⟩
  · exact absurd rfl (hnew _ (List.mem_of_getElem? h2))
/-- 'm[k] = v', the key there already, at the place j alone. -/
theorem KMap.put (h : KMap w P k b kv) (K : Keyed P k) {t e : TypeId} (ht : P.underlying t = some (.map k e)) {key val v : Value} {l : Lit} {j : Nat} (hkey : keyOf P k key = some l) (hj : kv[j]? = some (key, v)) (hone : ∀ i u, kv[i]? = some (key, u) → i = j) :
    ∃ w', (Instr.mapUpdate t (.map (some b)) key val).run P w = .ok () w' ∧ KMap w' P k b (kv.set j (key, val)) ∧ w.grownBy w' (some b) := by
  obtain ⟨es, clock, hb, he, hk⟩ := h
  rcases KMap.find K he hk hkey w with ⟨_, h2⟩ | ⟨j', v', h1, h2⟩
  · exact absurd rfl (h2 _ (List.mem_of_getElem? hj))
  · obtain rfl := hone j' v' h2
    have hes : ∃ x, es[j']? = some x ∧ x.key = key := by
      rw [← he, List.getElem?_map] at h2
      obtain ⟨x, hx, hxe⟩ := Option.map_eq_some_iff.1 h2
      exact ⟨x, by simpa using hx, congrArg (·.1) hxe⟩
    obtain ⟨x, hx, hxk⟩ := hes
    refine ⟨ChangeMaps.setBlock w b (.map (es.modify j' fun e => { e with key := key, val := val }) clock), by simp [Instr.mapUpdate, run_underlying ht, MapKept.run_getObj_map hb, K.check w _ hkey, h1, hx, hxk, K.stays w hkey, MapKept.run_setObj_map _ hb, Result.andThen, ChangeMaps.setBlock], ?_, ?_⟩
    · refine ⟨_, _, ChangeMaps.heap_setBlock_same hb _, ?_, fun p hp => ?_⟩
      · rw [← he]
        apply List.ext_getElem?
        intro i
        simp only [Array.toList_modify, List.getElem?_map, List.getElem?_set, List.getElem?_modify]
        by_cases e : j' = i
        · subst e
          have hlt : j' < es.size := (Array.getElem?_eq_some_iff.1 hx).1
          simp [hlt]
        · simp [e]
      · rcases List.mem_or_eq_of_mem_set hp with hp | hp
        · exact hk p hp
        · subst hp; exact ⟨l, hkey⟩
    · exact ⟨rfl, rfl, rfl, by simp [ChangeMaps.setBlock], fun i _ hi => ChangeMaps.heap_setBlock_other hb _ (fun e => hi (by rw [e]))⟩
end
/-- Keys of a kind that are integers; pairs of ints. -/
theorem intKeyed : Keyed Tryd.prog 3 := Go.Maps.int_keyed Tryd.underlying3
theorem laidOut : laidOutB Tryd.prog = true := by kernel_rfl
theorem pairRow : 53 < Tryd.prog.types.size := of_decide_eq_true (by kernel_rfl)
theorem pairCells : Tryd.prog.cellsOf 53 = 2 := by kernel_rfl
theorem pairKeyed : Keyed Tryd.prog 53 :=
  Keyed.of_law (deep_law_laid laidOut (m := 2) (by omega) pairRow (by kernel_rfl) (by rw [Tryd.underlying53]))
theorem pairType : Tryd.prog.keyType 53 = true := by kernel_rfl
theorem pairKey (x y : Int) (hx : I64 x) (hy : I64 y) : ∃ l, keyOf Tryd.prog 53 (.agg #[.int .i64 x, .int .i64 y]) = some l := by
  have w1 : (Lit.int .i64 x).wf = true := Go.WalkArith.wf_i64 hx
  have w2 : (Lit.int .i64 y).wf = true := Go.WalkArith.wf_i64 hy
  obtain ⟨m, hm⟩ : ∃ m, Tryd.prog.types.size = m + 1 := ⟨Tryd.prog.types.size - 1, by have := pairRow; omega⟩
  have c3 : Tryd.prog.cellsOf 3 = 1 := by kernel_rfl
  simp [keyOf, Tryd.underlying53, pairType, Value.formed, pairCells, Value.cells, hm, Program.keyLits, Tryd.underlying3, c3, w1, w2, show List.range 2 = [0, 1] from rfl]
theorem zeroBool (w : World) : (zeroValue 4).run Tryd.prog w = .ok (.bool false) w := by kernel_rfl
end Go.Proofs.YtpdkonpnhalecaaDoor
