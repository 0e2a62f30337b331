/-
  The rows whose list holds the library's tables, a pinned one too, and errors: what the list gives a walk; the wrap that hands over the world's shape too. No condition.
-/
import Derived.Test.YtpdkonpnhalecaaDoorF2
import Derived.Test.YtpdkonpnhalecaaDoorJB
import Derived.Lib.LaidTab
import Derived.Stop.LaidErr
import Derived.HandedShaped
import Derived.Lay
namespace Go.Proofs.YtpdkonpnhalecaaDoor
open Go.ChangeShapes Go.WideShapes Go.ChangeAt Go.WideElems Go.RowKit
set_option maxRecDepth 100000
theorem returnsInHanded_both {H : Type} {enc : TypeId × Value → H} {a : Assume} {C : Checked} {os : Os} {f : FuncId} {fn : Func} {s : ChangeSpec} {conds : List PathCond} {apart fresh handsOn again : Bool} {X : World → Array Value → Prop}
    (hX : ∀ (w w' : World) (args : Array Value), w.heap = w'.heap → X w args → X w' args)
    (own : ownKnob C.prog.godebug = none) (started : os.Started) (noInit : C.prog.inits.idxOf? f = none) (hfn : C.prog.funcs[f]? = some fn)
    (witness : ∃ (w : World) (tape : Tape) (i : Input), w.os = os ∧ (w.forCall tape i).Shaped C.prog ∧ i.vars = [] ∧ Input.okWide C.prog (w.forCall tape i) .any w.heap.size f i ∧
      ((s.pre enc C.prog fn conds apart (w.forCall tape i).memory i.args ∧ X (w.forCall tape i).memory i.args) ∧ sizedMet enc C.prog fn (OpenSpec.ofChange s) apart (w.forCall tape i).memory i.args) ∧ a.holds C.prog (lone (Frame.enter C.prog f i.args .normal) [] (w.forCall tape i)))
    (contract : ∀ (W : World) (base : Nat) (args : Array Value) (ds gs : List (DataW H)) (before : List MemPlace),
      (∀ (j : Nat) t v, fn.params[j]? = some t → args[j]? = some v → Value.okWide C.prog W .any base t v) →
      DataW.Whole enc C.prog fn.params.toList s.vars apart W args.toList ds gs before →
      conds.all (PathCond.test C.prog ⟨fn.params.toList, ds, s.plain.varTypes C.prog, gs⟩) = true →
      (DataW.weightsEach C.prog (fn.params.toList ++ s.plain.varTypes C.prog) (ds ++ gs)).all (· ≤ reachBytes) = true → X W args → W.ShapedOpen C.prog →
      a.holds C.prog (lone (Frame.enter C.prog f args .normal) [] W) →
      Calls C.prog f args W fun e W' => ∃ v, e = .returned v ∧ s.post enc C.prog fn apart fresh handsOn again W args v W') :
    ReturnsInHanded a C os f .any (fun w args => (s.pre enc C.prog fn conds apart w args ∧ X w args) ∧ sizedMet enc C.prog fn (OpenSpec.ofChange s) apart w args) (s.post enc C.prog fn apart fresh handsOn again) := by
  refine returnsInHanded_of_calls own started noInit witness ?_
  intro w tape i _ hsh _ hok hpre hholds
  obtain ⟨_, _, _, fn', hfn', _, _, _, _, hval⟩ := hok
  have e : fn' = fn := Option.some.inj (hfn'.symm.trans hfn)
  subst e
  obtain ⟨⟨⟨ds, gs, before, hw, hc⟩, hx⟩, hz⟩ := hpre
  have hw' := DataW.Whole.of_heap (w' := w.forCall tape i) (by rfl) hw
  refine (contract (w.forCall tape i) w.heap.size i.args ds gs before hval hw' hc (hz.weights hw) (hX _ _ _ (by rfl) hx) hsh hholds).mono fun e W' ⟨v, he, hp⟩ => ?_
  subst he
  exact ChangeSpec.post_blind hp
def laidSeven : List (String × DataW Unit) := Rows.linePrintsRow.laid
theorem laidSeven_plain : ∀ w, laidMetH Tryd.prog laidSeven w = laidMet Tryd.prog laidSeven w := fun w => MakeChecks.laidMetH_plain _ _ _ (by kernel_rfl)
theorem laid_met7 (os : Os) (args : Array Value) : laidMetH Tryd.prog laidSeven ((World.laidAll Tryd.prog os laidSeven).forCall (fun _ _ => 0) ⟨#[], args, []⟩).memory := by
  rw [laidSeven_plain]
  exact laidMet_laidAll _ (by kernel_rfl) (by kernel_rfl)
theorem shaped7 (os : Os) : (World.laidAll Tryd.prog os laidSeven).Shaped Tryd.prog := World.shaped_of_ZipB (by kernel_rfl) (by kernel_rfl)
theorem star_es : "*" ++ "errors.errorString" = "*errors.errorString" := by decide
theorem row_es (u : TypeId) (h : Tryd.prog.typeName? 3 u = some "*errors.errorString") : u = 115 :=
  typeName_ptr_named (nm := "errors.errorString") (by rw [star_es]; kernel_rfl) (by kernel_rfl) (by decide) u (by rw [star_es]; exact h)
theorem cells_es : Tryd.prog.cellsOf 117 = 1 := by kernel_rfl
theorem cells_str : Tryd.prog.cellsOf 9 = 1 := by kernel_rfl
theorem cells_u64 : Tryd.prog.cellsOf 89 = 1 := by kernel_rfl
theorem tabs_of {W : World} (h0 : laidMetH Tryd.prog laidSeven W) (hs : W.ShapedOpen Tryd.prog) : Tabs W := by
  have h : laidMet Tryd.prog laidSeven W := by rw [← laidSeven_plain]; exact h0
  have h3 := h.tail.tail
  have h5 := h3.tail.tail
  have h6 := h5.tail
  obtain ⟨a0, s0, hv0, _, _, _⟩ := laid_sentinel (g := 1) h5 (by kernel_rfl) (by kernel_rfl) Tryd.underlying49 row_es Tryd.underlying115 Tryd.underlying117 rfl rfl Tryd.underlying9 cells_es cells_str
  obtain ⟨a1, s1, hv1, _, _, _⟩ := laid_sentinel (g := 0) h6 (by kernel_rfl) (by kernel_rfl) Tryd.underlying49 row_es Tryd.underlying115 Tryd.underlying117 rfl rfl Tryd.underlying9 cells_es cells_str
  refine ⟨?_, Tryd.laysM146.s1_3 W hs, ⟨_, _, hv1⟩, ⟨_, _, hv0⟩⟩
  exact Lib.tabIs_of_head (g := 2) (k := .u64) (zs := Lib.pow10Tab) (rest := _) (by kernel_rfl) (by kernel_rfl) Tryd.underlying110 Tryd.underlying89 cells_u64 (by kernel_rfl) h3
end Go.Proofs.YtpdkonpnhalecaaDoor
