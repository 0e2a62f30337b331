/-
  CodeErrors returns true for every input and leaves its arguments as they were: the call from every heap. No condition.
-/
import Derived.Test.YtkjcmppaapbabaaDoorN15
import Derived.Test.YtkjcmppaapbabaaDoorJV
import Derived.SevenTiedAt
import Derived.Carry
namespace Go.Proofs.YtkjcmppaapbabaaDoor
open Go.ChangeShapes Go.WideShapes Go.ChangeAt Go.WideElems Go.RowKit
set_option maxRecDepth 100000
theorem codeErrors_lifted (os : Os) (started : os.Started) (H : Type) (enc : TypeId × Value → H) :
    ReturnsInHanded {} Tryd.checked os 16 .any (fun w args => (Rows.codeErrorsSpec.pre enc Tryd.prog Tryd.f16 [] false w args ∧ laidMetH Tryd.prog laidLine w) ∧ sizedMet enc Tryd.prog Tryd.f16 (OpenSpec.ofChange Rows.codeErrorsSpec) false w args)
      (Rows.codeErrorsSpec.post enc Tryd.prog Tryd.f16 false true false false) := by
  refine returnsInHanded_of_change_and (C := Tryd.checked) (X := fun w _ => laidMetH Tryd.prog laidLine w) (fun _ _ _ hh h => h.of_heap hh) own started (by kernel_rfl) Tryd.func16
    (ChangeSpec.witness_shaped (enc := enc) (C := Tryd.checked) (os := os) (X := fun w _ => laidMetH Tryd.prog laidLine w) false (World.doorLaid Tryd.prog 400 os) #[.agg #[.int .i64 0, .slice none 0 0], .int .i64 0, .agg #[.int .i64 0, .int .i64 0]] 8 rfl (World.shaped_of_RefB (by kernel_rfl) (by kernel_rfl)) (by kernel_rfl) (by kernel_rfl) (by kernel_rfl) (door_met os _)) ?_
  intro W base args ds gs before hval0 hW _ hsz _ _
  have hval : ∀ (j : Nat) t v, Tryd.f16.params[j]? = some t → args[j]? = some v → Value.okWide Tryd.prog W .any base t v := hval0
  have hW' := hW
  have hlt := hW.lt
  obtain ⟨p, q, hA0, hV, rfl, hfz, hnd⟩ := hW
  have hA : DataW.TrodAll enc Tryd.prog W 0 (fun _ => true) true Tryd.f16.params.toList args.toList ds p := hA0
  rw [Tryd.params16] at hA hval
  obtain ⟨v0, v1, v2, d0, d1, d2, p0, p1, p2, rfl, rfl, rfl, h0, h1, h2⟩ := trodAll_three hA
  obtain ⟨rfl, rfl⟩ := trodVars_none hV
  have hsz' : (DataW.weightsEach Tryd.prog (Tryd.f16.params.toList ++ []) ([d0, d1, d2] ++ [])).all (· ≤ reachBytes) = true := hsz
  rw [Tryd.params16] at hsz'
  simp only [List.append_nil] at hsz' hlt hW'
  obtain ⟨K0, A0, n0, c0, L0, rfl, hK0, hI0, hc0⟩ := code_in h0 (hval 0 24 v0 rfl rfl) (sized_code hsz' (j := 0) rfl rfl)
  obtain ⟨K1, rfl, rfl, rfl, wK1⟩ := open_int Tryd.underlying3 (hval 1 3 v1 rfl rfl) h1
  obtain ⟨g2, r2, rfl, hg2, hr2⟩ := place_in h2 (hval 2 50 v2 rfl rfl)
  refine (codeErrors_any K0 A0 n0 c0 L0 K1 g2 r2 W hI0 hc0 (bounds_i64 wK1) hg2 hr2).mono fun e W' ⟨he, hb⟩ => ?_
  subst he
  exact ⟨_, rfl, post_of_below laidOutP hb rfl rfl rfl (by rw [Tryd.params16]; intro t ht; simp at ht; (first | (rcases ht with rfl | rfl | rfl <;> first | exact recInt | exact recInts | exact recCode | exact recPlace) | (rcases ht with rfl | rfl <;> first | exact recInt | exact recInts | exact recCode | exact recPlace) | (rcases ht with rfl <;> first | exact recInt | exact recInts | exact recCode | exact recPlace))) hW' (fun _ _ _ => trodAll_mk1 (shut_bool Tryd.underlying4 _)) (ok_one (by kernel_rfl) rfl (okWide_bool_mk Tryd.underlying4 _))⟩
end Go.Proofs.YtkjcmppaapbabaaDoor
