/-
  The witness of the rows: the heap that the program's own start leaves. An argument of ints as a slice that reads. No condition.
-/
import Derived.Test.YtpdkonpnhalecaaDoorF1
namespace Go.Proofs.YtpdkonpnhalecaaDoor
open Go.ChangeShapes Go.WideShapes Go.ChangeAt Go.WideElems Go.RowKit
set_option maxRecDepth 100000

theorem own : ownKnob Tryd.prog.godebug = none := by kernel_rfl
theorem laidOutP : laidOutB Tryd.prog = true := by kernel_rfl
theorem recInt : Tryd.prog.readableRec 3 = true ∧ 3 < Tryd.prog.types.size := ⟨by kernel_rfl, of_decide_eq_true (by kernel_rfl)⟩
theorem recInts : Tryd.prog.readableRec 28 = true ∧ 28 < Tryd.prog.types.size := ⟨by kernel_rfl, of_decide_eq_true (by kernel_rfl)⟩
theorem cellsInt : Tryd.prog.cellsOf 3 = 1 := by kernel_rfl
def laidLine : List (String × DataW Unit) := Rows.lineAllRow.laid

theorem door_met (os : Os) (args : Array Value) : laidMetH Tryd.prog laidLine ((World.doorLaid Tryd.prog 400 os).forCall (fun _ _ => 0) ⟨#[], args, []⟩).memory :=
  laidMetH_of_parts3 (fuel := 8) (laidMet_of_run' 8 (by kernel_rfl) (by kernel_rfl)) (by kernel_rfl) (by kernel_rfl)
section
variable {H : Type} {enc : TypeId × Value → H}
theorem reach_is : reachBytes = 140737488351232 := by kernel_rfl
/-- A slice of ints that came in reads as some list. -/
theorem ints_in {W : World} {v : Value} {d : DataW H} {ps : List MemPlace} (h : DataW.Trod enc Tryd.prog W 0 (fun _ => true) true 28 v d ps) {base : Nat} (hv : Value.okWide Tryd.prog W .any base 28 v)
    (hsz : ∀ elems spare, d = .slice elems spare → (elems.length + spare.length) * 8 ≤ reachBytes) : ∃ A n c L, v = .slice A n c ∧ Ints W A n L ∧ n ≤ c := by
  obtain ⟨fuel, hf⟩ := h
  obtain ⟨a0, len, cap, rfl⟩ := okWide_slice Tryd.underlying28 hv
  rcases open_ints Tryd.underlying28 Tryd.underlying3 cellsInt hf with ⟨hcs, hx⟩ | ⟨a, len', cap', zs, hcs, _, hl, hm, hz, hx, hcell, hwz⟩
  · simp [Value.cells] at hcs
    obtain ⟨rfl, rfl, rfl⟩ := hcs
    exact ⟨none, 0, 0, [], rfl, Ints.nil _ _, Nat.le_refl _⟩
  · simp [Value.cells] at hcs
    obtain ⟨rfl, rfl, rfl⟩ := hcs
    simp only [Prod.mk.injEq] at hx
    obtain ⟨hd, hp⟩ := hx
    rw [if_pos rfl] at hz
    have hs := hsz _ _ hd
    rw [reach_is] at hs
    simp only [lits, List.length_map, List.length_take, List.length_drop] at hs
    refine ⟨some a, len, cap, zs.take len, rfl, ⟨by rw [List.length_take]; omega, by omega, fun x hx => ?_, fun hn => ⟨a, rfl, ?_, fun k x hx => ?_⟩⟩, hl⟩
    · exact bounds_i64 (hwz x (List.mem_of_mem_take hx))
    · have h0 := hcell 0 (by omega)
      have := World.block_lt_of_cell? _ _ h0
      rwa [block_of_add] at this
    · have hk : k < len := by
        have := (List.getElem?_eq_some_iff.1 hx).1
        rw [List.length_take] at this
        omega
      rw [hcell k (by omega)]
      rw [List.getElem?_take_of_lt hk] at hx
      rw [List.getD_eq_getElem?_getD, hx]
      rfl
theorem bytesInt : Tryd.prog.bytesOf 3 = 8 := by kernel_rfl
theorem sized_ints {ts : List TypeId} {ds : List (DataW H)} (h : (DataW.weightsEach Tryd.prog ts ds).all (· ≤ reachBytes) = true) {j : Nat} {d : DataW H} (ht : ts[j]? = some 28) (hd : ds[j]? = some d) :
    ∀ elems spare, d = .slice elems spare → (elems.length + spare.length) * 8 ≤ reachBytes := by
  rintro elems spare rfl
  have := sized_slice h ht hd Tryd.underlying28
  rwa [bytesInt] at this
end
end Go.Proofs.YtpdkonpnhalecaaDoor
