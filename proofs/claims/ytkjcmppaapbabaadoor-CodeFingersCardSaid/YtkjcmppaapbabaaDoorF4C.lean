/-
  An argument that is a place reads as two ints. No condition.
-/
import Derived.Test.YtkjcmppaapbabaaDoorF3C
namespace Go.Proofs.YtkjcmppaapbabaaDoor
open Go.ChangeShapes Go.WideShapes Go.ChangeAt Go.WideElems Go.RowKit Go.Deep Go.Joins
set_option maxRecDepth 100000
theorem recPlace : Tryd.prog.readableRec 50 = true ∧ 50 < Tryd.prog.types.size := ⟨by kernel_rfl, of_decide_eq_true (by kernel_rfl)⟩
theorem cellsPlace : Tryd.prog.cellsOf 50 = 2 := by kernel_rfl
section
variable {H : Type} {enc : TypeId × Value → H}
theorem place_fields : ∃ f0 f1 : Field, Tryd.prog.underlying 50 = some (.struct #[f0, f1]) ∧ oneCellFields Tryd.prog #[f0, f1] = true ∧ f0.type = 3 ∧ f1.type = 3 := ⟨_, _, Tryd.underlying50, by kernel_rfl, rfl, rfl⟩
theorem place_in {W : World} {v : Value} {d : DataW H} {ps : List MemPlace} (h : DataW.Trod enc Tryd.prog W 0 (fun _ => true) true 50 v d ps) {base : Nat} (hv : Value.okWide Tryd.prog W .any base 50 v) :
    ∃ g r, v = .agg #[.int .i64 g, .int .i64 r] ∧ I64 g ∧ I64 r := by
  obtain ⟨f0, f1, hu, hone, hf0, hf1⟩ := place_fields
  obtain ⟨v0, v1, y0, y1, m, rfl, rfl, _, h0, h1⟩ := open_agg2 hu hone cellsPlace hv h
  rw [hf0] at h0
  rw [hf1] at h1
  obtain ⟨g, e0, _, w0⟩ := DataW.trod_int Tryd.underlying3 h0
  obtain ⟨r, e1, _, w1⟩ := DataW.trod_int Tryd.underlying3 h1
  simp only [List.cons.injEq, and_true] at e0 e1
  subst e0; subst e1
  exact ⟨g, r, rfl, bounds_i64 w0, bounds_i64 w1⟩
end
end Go.Proofs.YtkjcmppaapbabaaDoor
