/-
  The map of visits: its entries as a list of names; lookups, stores. No condition.
-/
import Derived.Test.YtkjcmppaapbabaaDoorMap
import Derived.Test.YtkjcmppaapbabaaDoorK5
import Derived.Test.YtkjcmppaapbabaaDoorOwnV
import Derived.Maps.OwnSet
namespace Go.Proofs.YtkjcmppaapbabaaDoor
open Go.RowKit
open Go.Maps (Keyed)
section
variable {P : Program} {w w' : World} {k : TypeId} {b : Nat} {kv : List (Value × Value)}
/-- 'v, ok := m[k]'. -/
theorem KMap.lookOk (h : KMap w P k b kv) (K : Keyed P k) {t e : TypeId} (ht : P.underlying t = some (.map k e)) {z : Value} (hz : ∀ w, (zeroValue e).run P w = .ok z w) {key : Value} {l : Lit} (hkey : keyOf P k key = some l) :
    ((Instr.lookup t (.map (some b)) key true).run P w = .ok (.tuple #[z, .bool false]) w ∧ ∀ p ∈ kv, p.1 ≠ key) ∨ ∃ (j : Nat) (v : Value), (Instr.lookup t (.map (some b)) key true).run P w = .ok (.tuple #[v, .bool true]) w ∧ kv[j]? = some (key, v) := by
  obtain ⟨es, clock, hb, he, hk⟩ := h
  rcases KMap.find K he hk hkey w with ⟨h1, h2⟩ | ⟨j, v, h1, h2⟩
  · exact .inl ⟨by simp [Instr.lookup, run_underlying ht, MapKept.run_getObj_map hb, Result.andThen, K.check w _ hkey, h1, hz], h2⟩
  · exact .inr ⟨j, v, by simp [Instr.lookup, run_underlying ht, MapKept.run_getObj_map hb, Result.andThen, K.check w _ hkey, h1], h2⟩
end
def ent (L : List Lt) (i : Nat) (d : Int) : Value × Value := (.int .i64 d, .agg #[.int .i64 (lastV L d false i), .int .i64 (lastV L d true i)])
/-- The map of visits behind i letters. -/
structure Vis (w : World) (b : Nat) (L : List Lt) (i : Nat) (ids : List Int) : Prop where
  map : KMap w Tryd.prog 3 b (ids.map (ent L i))
  nodup : ids.Nodup
  mem : ∀ d, d ∈ ids ↔ 0 < tN L d i
  len : ids.length = dN L i
theorem zeroPair (w : World) : (zeroValue 139).run Tryd.prog w = .ok (.agg #[.int .i64 0, .int .i64 0]) w := by kernel_rfl
theorem intKey (x : Int) (hx : I64 x) : ∃ l, keyOf Tryd.prog 3 (.int .i64 x) = some l := ⟨_, Go.Maps.keyOf_int_mk Tryd.underlying3 (Go.WalkArith.wf_i64 hx)⟩
section
variable {w w' : World} {b i : Nat} {L : List Lt} {ids : List Int}
theorem Vis.look (h : Vis w b L i ids) {d : Int} (hd : I64 d) :
    ((Instr.lookup 85 (.map (some b)) (.int .i64 d) true).run Tryd.prog w = .ok (.tuple #[.agg #[.int .i64 0, .int .i64 0], .bool false]) w ∧ tN L d i = 0) ∨
    ((Instr.lookup 85 (.map (some b)) (.int .i64 d) true).run Tryd.prog w = .ok (.tuple #[.agg #[.int .i64 (lastV L d false i), .int .i64 (lastV L d true i)], .bool true]) w ∧ 0 < tN L d i) := by
  obtain ⟨l, hl⟩ := intKey d hd
  rcases h.map.lookOk intKeyed Tryd.underlying85 zeroPair hl with ⟨h1, h2⟩ | ⟨j, v, h1, h2⟩
  · refine .inl ⟨h1, ?_⟩
    rcases Nat.eq_zero_or_pos (tN L d i) with h0 | h0
    · exact h0
    · exact absurd rfl (h2 (ent L i d) (List.mem_map.2 ⟨d, (h.mem d).2 h0, rfl⟩))
  · rw [List.getElem?_map] at h2
    obtain ⟨d', hd', he⟩ := Option.map_eq_some_iff.1 h2
    simp only [ent, Prod.mk.injEq, Value.int.injEq, true_and] at he
    obtain ⟨rfl, rfl⟩ := he
    exact .inr ⟨h1, (h.mem d').1 (List.mem_of_getElem? hd')⟩
theorem Vis.lookNo (h : Vis w b L i ids) {d : Int} (hd : I64 d) (ht : tN L d i = 0) : (Instr.lookup 85 (.map (some b)) (.int .i64 d) true).run Tryd.prog w = .ok (.tuple #[.agg #[.int .i64 0, .int .i64 0], .bool false]) w := by
  rcases h.look hd with ⟨h1, _⟩ | ⟨_, h2⟩
  · exact h1
  · omega
theorem Vis.lookYes (h : Vis w b L i ids) {d : Int} (hd : I64 d) (ht : 0 < tN L d i) : (Instr.lookup 85 (.map (some b)) (.int .i64 d) true).run Tryd.prog w = .ok (.tuple #[.agg #[.int .i64 (lastV L d false i), .int .i64 (lastV L d true i)], .bool true]) w := by
  rcases h.look hd with ⟨_, h2⟩ | ⟨h1, _⟩
  · omega
  · exact h1
theorem tN_succ (L : List Lt) (d : Int) (i : Nat) : tN L d (i + 1) = tN L d i + (if (isC (la L i) && (la L i).id == d) = true then 1 else 0) := rfl
/-- A letter that is no visit. -/
theorem Vis.skip (h : Vis w b L i ids) (hc : isC (la L i) = false) : Vis w b L (i + 1) ids := by
  have hv : ∀ d o, visB L d o i = false := fun d o => by unfold visB; rw [hc]; rfl
  refine ⟨?_, h.nodup, fun d => ?_, ?_⟩
  · have : ids.map (ent L (i + 1)) = ids.map (ent L i) := List.map_congr_left fun d _ => by unfold ent; rw [lastV_stay (hv d false), lastV_stay (hv d true)]
    rw [this]; exact h.map
  · rw [h.mem d, tN_succ, hc]; simp
  · rw [h.len]
    unfold dN
    rw [countTo_no (by unfold nwB; rw [hc]; rfl)]
/-- One visit more is stored. -/
theorem Vis.store (h : Vis w b L i ids) (hc : isC (la L i) = true) (hd : I64 (la L i).id) :
    ∃ w' ids', (Instr.mapUpdate 85 (.map (some b)) (.int .i64 (la L i).id) (.agg #[.int .i64 (lastV L (la L i).id false (i + 1)), .int .i64 (lastV L (la L i).id true (i + 1))])).run Tryd.prog w = .ok () w' ∧ Vis w' b L (i + 1) ids' ∧ w.grownBy w' (some b) := by
  obtain ⟨l, hl⟩ := intKey _ hd
  have hoth : ∀ d, d ≠ (la L i).id → ent L (i + 1) d = ent L i d := fun d hne => by
    have hv : ∀ o, visB L d o i = false := fun o => by unfold visB; simp; intro _ e; exact absurd e.symm hne
    unfold ent
    rw [lastV_stay (hv false), lastV_stay (hv true)]
  by_cases hm : (la L i).id ∈ ids
  · obtain ⟨j, hj, hje⟩ := List.getElem_of_mem hm
    have hj2 : (ids.map (ent L i))[j]? = some (ent L i (la L i).id) := by rw [List.getElem?_map, List.getElem?_eq_getElem hj, hje]; rfl
    have huniq : ∀ t u, (ids.map (ent L i))[t]? = some (.int .i64 (la L i).id, u) → t = j := fun t u ht => by
      rw [List.getElem?_map] at ht
      obtain ⟨d', hd', he⟩ := Option.map_eq_some_iff.1 ht
      simp only [ent, Prod.mk.injEq, Value.int.injEq, true_and] at he
      have e1 := he.1
      subst e1
      exact (List.getElem?_inj (List.getElem?_eq_some_iff.1 hd').1 h.nodup).1 (hd'.trans (by rw [List.getElem?_eq_getElem hj, hje]))
    obtain ⟨w', h1, h2, h3⟩ := h.map.put intKeyed Tryd.underlying85 (val := .agg #[.int .i64 (lastV L (la L i).id false (i + 1)), .int .i64 (lastV L (la L i).id true (i + 1))]) hl hj2 huniq
    refine ⟨w', ids, h1, ⟨?_, h.nodup, fun d => ?_, ?_⟩, h3⟩
    · have : (ids.map (ent L i)).set j (.int .i64 (la L i).id, .agg #[.int .i64 (lastV L (la L i).id false (i + 1)), .int .i64 (lastV L (la L i).id true (i + 1))]) = ids.map (ent L (i + 1)) := by
        apply List.ext_getElem?
        intro t
        rw [List.getElem?_set, List.getElem?_map, List.getElem?_map]
        by_cases e : j = t
        · subst e
          rw [if_pos rfl, if_pos (by simpa using hj), List.getElem?_eq_getElem hj, hje]; rfl
        · rw [if_neg e]
          cases ht : ids[t]? with
          | none => rfl
          | some d =>
            simp only [Option.map_some]
            rw [hoth d (fun ed => e (by
              subst ed
              exact (List.getElem?_inj hj h.nodup).1 (by rw [List.getElem?_eq_getElem hj, hje, ht]))) ]
      rw [← this]; exact h2
    · rw [h.mem d, tN_succ]
      by_cases e : (la L i).id = d
      · have := (h.mem d).1 (by rw [← e]; exact hm)
        omega
      · rw [if_neg (by simp [e])]; omega
    · rw [h.len]
      unfold dN
      rw [countTo_no]
      cases hq : nwB L i with
      | false => rfl
      | true =>
        have := (nw_iff.1 hq).2
        have := (h.mem _).1 hm
        omega
  · have hnew : ∀ p ∈ ids.map (ent L i), p.1 ≠ .int .i64 (la L i).id := fun p hp e => by
      obtain ⟨d, hd', rfl⟩ := List.mem_map.1 hp
      simp only [ent, Value.int.injEq, true_and] at e
      subst e
      exact hm hd'
    obtain ⟨w', h1, h2, h3⟩ := h.map.push intKeyed Tryd.underlying85 (val := .agg #[.int .i64 (lastV L (la L i).id false (i + 1)), .int .i64 (lastV L (la L i).id true (i + 1))]) hl hnew
    refine ⟨w', ids ++ [(la L i).id], h1, ⟨?_, ?_, fun d => ?_, ?_⟩, h3⟩
    · have : ids.map (ent L i) ++ [(.int .i64 (la L i).id, .agg #[.int .i64 (lastV L (la L i).id false (i + 1)), .int .i64 (lastV L (la L i).id true (i + 1))])] = (ids ++ [(la L i).id]).map (ent L (i + 1)) := by
        rw [List.map_append]
        refine congr (congrArg _ (List.map_congr_left fun d hd' => ?_)) rfl
        rw [hoth d (fun e => by subst e; exact hm hd')]
      rw [← this]; exact h2
    · rw [List.nodup_append]
      exact ⟨h.nodup, by simp, fun a ha b' hb' e => by simp at hb'; subst hb'; subst e; exact hm ha⟩
    · rw [List.mem_append, h.mem d, tN_succ, List.mem_singleton]
      by_cases e : (la L i).id = d
      · rw [if_pos (by simp [hc, e])]; constructor
        · intro _; omega
        · intro _; exact .inr e.symm
      · rw [if_neg (by simp [e])]
        constructor
        · rintro (h | h)
          · omega
          · exact absurd h.symm e
        · intro h; exact .inl (by omega)
    · rw [List.length_append, h.len]
      unfold dN
      rw [countTo_yes (nw_iff.2 ⟨hc, by
        rcases Nat.eq_zero_or_pos (tN L (la L i).id i) with h0 | h0
        · exact h0
        · exact absurd ((h.mem _).2 h0) hm⟩)]
      rfl
theorem Vis.made (w : World) (L : List Lt) : Vis (w.alloc (.map #[] 0)) w.heap.size L 0 [] :=
  ⟨KMap.made w _ _, by simp, fun d => by simp [tN, countTo], rfl⟩
theorem Vis.lt (h : Vis w b L i ids) : b < w.heap.size := h.map.lt
theorem Vis.kept {row : Option Nat} (h : Vis w b L i ids) (hg : w.grownBy w' row) (hne : some b ≠ row) : Vis w' b L i ids := ⟨h.map.kept hg hne, h.nodup, h.mem, h.len⟩
theorem Vis.alloc (h : Vis w b L i ids) (o : Obj) : Vis (w.alloc o) b L i ids := ⟨h.map.alloc o, h.nodup, h.mem, h.len⟩
theorem Vis.drew (h : Vis w b L i ids) : Vis w.drew b L i ids := ⟨h.map, h.nodup, h.mem, h.len⟩
theorem Vis.drewN (h : Vis w b L i ids) (k : Nat) : Vis (w.drewN k) b L i ids := ⟨h.map, h.nodup, h.mem, h.len⟩
theorem Vis.setCell (h : Vis w b L i ids) {p : Addr} (hp : b ≠ p.block) (u : Value) : Vis (w.setCell p u) b L i ids := ⟨h.map.setCell hp u, h.nodup, h.mem, h.len⟩
theorem Vis.next (h : Vis w b L i ids) (hb : Below w.heap.size w w') : Vis w' b L i ids := ⟨h.map.below hb h.lt, h.nodup, h.mem, h.len⟩
theorem Vis.run_len (h : Vis w b L i ids) (ty : TypeId) : (Builtin.len_ #[85] ty #[.map (some b)]).run Tryd.prog w = .ok (.int .i64 ids.length) w := by
  obtain ⟨es, clock, hb, he, _⟩ := h.map
  have hl : es.size = ids.length := by
    have := congrArg List.length he
    simpa using this
  simp [Builtin.len_, MapKept.run_getObj_map hb, hl, goInt]
theorem wpList_len_vis {ops : Array Oper} {rest : List Oper} {o : Oper} {a : Act} {Q : Exit → Act → World → Prop} (hg : o.guard = none) (m : Operand) (hop : o.op = Op.call { callee := Callee.builtin Builtin.len, args := #[m], argTypes := #[85] })
    (hm : a.eval m = .map (some b)) (h : Vis w b L i ids) (hK : wpList Tryd.prog ops Q rest (a.put o.dst (.int .i64 ids.length)) w) : wpList Tryd.prog ops Q (o :: rest) a w := by
  refine wpList_plain hg fun K' hK' => ?_
  unfold Oper.wp
  simp [execOp, hop, resolve, invoke, builtin, hm, h.run_len, Result.andThen]
  exact hK' _ _ hK
end
end Go.Proofs.YtkjcmppaapbabaaDoor
