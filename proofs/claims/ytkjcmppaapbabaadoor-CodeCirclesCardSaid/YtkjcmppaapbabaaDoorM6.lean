/-
  Contract: the program's left at a crossing; left. Conditions: the diagram of a well-formed code.
-/
import Derived.Test.YtkjcmppaapbabaaDoorM5
namespace Go.Proofs.YtkjcmppaapbabaaDoor
open Go.RowKit
theorem KMap.lookNo {P : Program} {w : World} {k : TypeId} {b : Nat} {kv : List (Value × Value)} (h : KMap w P k b kv) (K : Go.Maps.Keyed P k) {t e : TypeId} (ht : P.underlying t = some (.map k e)) {z : Value} (hz : ∀ w, (zeroValue e).run P w = .ok z w) {key v : Value} {l : Lit} (hkey : keyOf P k key = some l) (hone : ∃ j : Nat, kv[j]? = some (key, v)) (huniq : ∀ (i j : Nat) (u u' : Value), kv[i]? = some (key, u) → kv[j]? = some (key, u') → u = u') :
    (Instr.lookup t (.map (some b)) key false).run P w = .ok v w := by
  rcases h.look K ht (hz w) hkey with ⟨_, h2⟩ | ⟨j, u, h1, h2⟩
  · obtain ⟨j, hj⟩ := hone
    exact absurd rfl (h2 _ (List.mem_of_getElem? hj))
  · obtain ⟨j', hj'⟩ := hone
    rw [h1, huniq j j' u v h2 hj']
theorem Vis.get {w : World} {b n : Nat} {L : List Lt} {ids : List Int} (h : Vis w b L n ids) {d : Int} (hd : I64 d) (ht : 0 < tN L d n) :
    (Instr.lookup 85 (.map (some b)) (.int .i64 d) false).run Tryd.prog w = .ok (.agg #[.int .i64 (lastV L d false n), .int .i64 (lastV L d true n)]) w := by
  obtain ⟨l, hl⟩ := intKey d hd
  obtain ⟨j, hj, hje⟩ := List.getElem_of_mem ((h.mem d).2 ht)
  refine h.map.lookNo intKeyed Tryd.underlying85 zeroPair hl ⟨j, by rw [List.getElem?_map, List.getElem?_eq_getElem hj, hje]; rfl⟩ (fun i j u u' hi hj => ?_)
  rw [List.getElem?_map] at hi hj
  obtain ⟨d1, e1, f1⟩ := Option.map_eq_some_iff.1 hi
  obtain ⟨d2, e2, f2⟩ := Option.map_eq_some_iff.1 hj
  simp only [ent, Prod.mk.injEq, Value.int.injEq, true_and] at f1 f2
  obtain ⟨rfl, rfl⟩ := f1
  obtain ⟨rfl, rfl⟩ := f2
  rfl
end Go.Proofs.YtkjcmppaapbabaaDoor
