/-
  What the row asks behind a call that leaves all old memory as it was and returns true. No condition.
  The witness of the rows: the heap that the program's own start leaves. An argument of ints as a slice that reads. No condition.
  An argument that is a code reads as some list of letters. No condition.
  An argument that is a place reads as two ints. No condition.
-/
import Derived.Test.YtkjcmppaapbabaaDoorRows
import Derived.Test.YtkjcmppaapbabaaDoorTie
import Derived.Test.YtkjcmppaapbabaaDoorCards
import Derived.Test.YtkjcmppaapbabaaDoorJB
import Derived.ProofKit
import Derived.LaidMore
import Derived.OpenShut
import Derived.Stop.Joined
import Derived.SizedLaws
import Derived.Lib.SmallJoins
import Derived.Deep.Slices
import Derived.Deep.Fields
import Derived.ChangeSame
import Derived.Test.YtkjcmppaapbabaaDoorJC
namespace Go.Proofs.YtkjcmppaapbabaaDoor
section
open Go.ChangeShapes Go.WideShapes Go.ChangeAt Go.WideElems Go.RowKit

section
variable {H : Type} {enc : TypeId × Value → H} {P : Program}
theorem trodAll_stays (hl : laidOutB P = true) {W W' : World} {sp' : Nat → Bool} (hb : Below W.heap.size W W') : ∀ (ts : List TypeId) (vs : List Value) (ds : List (DataW H)) (ps : List MemPlace),
    (∀ t ∈ ts, P.readableRec t = true ∧ t < P.types.size) → DataW.TrodAll enc P W 0 (fun _ => true) true ts vs ds ps → (∀ p ∈ ps, p.block < W.heap.size) → (∀ p ∈ ps, sp' p.block = true) → DataW.TrodAll enc P W' 0 sp' true ts vs ds ps
  | [], [], [], _, _, h, _, _ => h
  | [], [], _ :: _, _, _, h, _, _ => h.elim
  | [], _ :: _, _, _, _, h, _, _ => h.elim
  | _ :: _, [], _, _, _, h, _, _ => h.elim
  | _ :: _, _ :: _, [], _, _, h, _, _ => h.elim
  | t :: ts, v :: vs, d :: ds, ps, ht, h, hlt, hsp => by
    obtain ⟨p, q, h1, h2, rfl⟩ := h
    refine ⟨p, q, ?_, ?_, rfl⟩
    · exact Trod_stays hl (ht t (by simp)).1 (ht t (by simp)).2 h1 (fun x hx => hb.same (hlt x (by simp [hx]))) (fun x hx => hsp x (by simp [hx]))
    · exact trodAll_stays hl hb ts vs ds q (fun t' h' => ht t' (by simp [h'])) h2 (fun x hx => hlt x (by simp [hx])) (fun x hx => hsp x (by simp [hx]))
/-- The call returns a truth value and only makes new memory: what its specification's law says of results and arguments is all. -/
theorem post_of_below {f : Func} {s : ChangeSpec} {apart fresh handsOn again : Bool} {W W' : World} {args : Array Value} {v : Value} {ds : List (DataW H)} {before : List MemPlace} (hl : laidOutB P = true) (hb : Below W.heap.size W W')
    (hvs : s.vars = []) (hfn : (s.fn H ds).args = ds) (hfv : (s.fn H ds).vars = [])
    (hts : ∀ t ∈ f.params.toList, P.readableRec t = true ∧ t < P.types.size)
    (hW : DataW.Whole enc P f.params.toList s.vars apart W args.toList ds [] before)
    (hres : ∀ (b : Nat) (sp : Nat → Bool) (hd : Bool), DataW.TrodAll enc P W' b sp hd f.resultTypes.toList (v.resultList f.resultTypes.size) (s.fn H ds).results [])
    (hok : ∀ (j : Nat) (t : TypeId) (r : Value), f.resultTypes[j]? = some t → (v.resultList f.resultTypes.size)[j]? = some r → Value.okWide P W' .any 0 t r) :
    s.post enc P f apart fresh handsOn again W args v W' := by
  have hlt := hW.lt
  have hW2 := hW
  obtain ⟨pa, pv, hA, hV, rfl, hz, hn⟩ := hW2
  rw [hvs] at hV
  obtain rfl : pv = [] := hV
  simp only [List.append_nil] at *
  have args_ : ∀ sp : Nat → Bool, (∀ p ∈ pa, sp p.block = true) → DataW.TrodAll enc P W' 0 sp true f.params.toList args.toList (s.fn H (ds ++ [])).args pa := fun sp hsp => by
    rw [List.append_nil, hfn]
    exact trodAll_stays hl hb _ _ _ _ hts hA hlt hsp
  have vars_ : ∀ sp : Nat → Bool, DataW.TrodVars enc P W' sp s.vars (s.fn H (ds ++ [])).vars [] := fun sp => by
    rw [List.append_nil, hfv, hvs]
    rfl
  refine ⟨ds, [], pa, [], pa, [], hW, by rw [List.append_nil]; exact hres _ _ _, args_ _ (fun p hp => by simpa using hlt p hp), vars_ _, hb.frame _, fun _ => ?_⟩
  refine ⟨hok, _, _, ([] ++ pa) ++ [], ⟨[] ++ pa, [], trodAll_append (args_ _ (fun _ _ => rfl)) (hres _ _ _), vars_ _, rfl, ?_, ?_⟩, ?_⟩
  · intro b off hp
    have hp' : MemPlace.cell b off ∈ pa := by simpa using hp
    rw [hb.frozen (p := ⟨b, off, none⟩) (hlt _ hp')]
    exact hz b off hp'
  · intro ha
    simpa using hn ha
  · intro p hp _
    simpa using hp
end
end

section
open Go.ChangeShapes Go.WideShapes Go.ChangeAt Go.WideElems Go.RowKit
set_option maxRecDepth 100000

theorem own : ownKnob Tryd.prog.godebug = none := by kernel_rfl
theorem laidOutP : laidOutB Tryd.prog = true := by kernel_rfl
theorem recInt : Tryd.prog.readableRec 3 = true ∧ 3 < Tryd.prog.types.size := ⟨by kernel_rfl, of_decide_eq_true (by kernel_rfl)⟩
theorem recInts : Tryd.prog.readableRec 35 = true ∧ 35 < Tryd.prog.types.size := ⟨by kernel_rfl, of_decide_eq_true (by kernel_rfl)⟩
theorem cellsInt : Tryd.prog.cellsOf 3 = 1 := by kernel_rfl
def laidLine : List (String × DataW Unit) := Rows.codeCirclesRow.laid

theorem door_met (os : Os) (args : Array Value) : laidMetH Tryd.prog laidLine ((World.doorLaid Tryd.prog 400 os).forCall (fun _ _ => 0) ⟨#[], args, []⟩).memory :=
  laidMetH_of_parts3 (fuel := 8) (laidMet_of_run' 8 (by kernel_rfl) (by kernel_rfl)) (by kernel_rfl) (by kernel_rfl)
section
variable {H : Type} {enc : TypeId × Value → H}
theorem reach_is : reachBytes = 140737488351232 := by kernel_rfl
/-- A slice of ints that came in reads as some list. -/
theorem ints_in {W : World} {v : Value} {d : DataW H} {ps : List MemPlace} (h : DataW.Trod enc Tryd.prog W 0 (fun _ => true) true 35 v d ps) {base : Nat} (hv : Value.okWide Tryd.prog W .any base 35 v)
    (hsz : ∀ elems spare, d = .slice elems spare → (elems.length + spare.length) * 8 ≤ reachBytes) : ∃ A n c L, v = .slice A n c ∧ Ints W A n L ∧ n ≤ c := by
  obtain ⟨fuel, hf⟩ := h
  obtain ⟨a0, len, cap, rfl⟩ := okWide_slice Tryd.underlying35 hv
  rcases open_ints Tryd.underlying35 Tryd.underlying3 cellsInt hf with ⟨hcs, hx⟩ | ⟨a, len', cap', zs, hcs, _, hl, hm, hz, hx, hcell, hwz⟩
  · simp [Value.cells] at hcs
    obtain ⟨rfl, rfl, rfl⟩ := hcs
    exact ⟨none, 0, 0, [], rfl, Ints.nil _ _, Nat.le_refl _⟩
  · simp [Value.cells] at hcs
    obtain ⟨rfl, rfl, rfl⟩ := hcs
    simp only [Prod.mk.injEq] at hx
    obtain ⟨hd, hp⟩ := hx
    rw [if_pos rfl] at hz
    have hs := hsz _ _ hd
    rw [reach_is] at hs
    simp only [lits, List.length_map, List.length_take, List.length_drop] at hs
    refine ⟨some a, len, cap, zs.take len, rfl, ⟨by rw [List.length_take]; omega, by omega, fun x hx => ?_, fun hn => ⟨a, rfl, ?_, fun k x hx => ?_⟩⟩, hl⟩
    · exact bounds_i64 (hwz x (List.mem_of_mem_take hx))
    · have h0 := hcell 0 (by omega)
      have := World.block_lt_of_cell? _ _ h0
      rwa [block_of_add] at this
    · have hk : k < len := by
        have := (List.getElem?_eq_some_iff.1 hx).1
        rw [List.length_take] at this
        omega
      rw [hcell k (by omega)]
      rw [List.getElem?_take_of_lt hk] at hx
      rw [List.getD_eq_getElem?_getD, hx]
      rfl
theorem bytesInt : Tryd.prog.bytesOf 3 = 8 := by kernel_rfl
theorem sized_ints {ts : List TypeId} {ds : List (DataW H)} (h : (DataW.weightsEach Tryd.prog ts ds).all (· ≤ reachBytes) = true) {j : Nat} {d : DataW H} (ht : ts[j]? = some 35) (hd : ds[j]? = some d) :
    ∀ elems spare, d = .slice elems spare → (elems.length + spare.length) * 8 ≤ reachBytes := by
  rintro elems spare rfl
  have := sized_slice h ht hd Tryd.underlying35
  rwa [bytesInt] at this
end
end

section
open Go.ChangeShapes Go.WideShapes Go.ChangeAt Go.WideElems Go.RowKit Go.Deep Go.Joins
set_option maxRecDepth 100000
theorem recCode : Tryd.prog.readableRec 24 = true ∧ 24 < Tryd.prog.types.size := ⟨by kernel_rfl, of_decide_eq_true (by kernel_rfl)⟩
theorem cellsLetter : Tryd.prog.cellsOf 46 = 6 := by kernel_rfl
theorem cellsCode : Tryd.prog.cellsOf 24 = 2 := by kernel_rfl
theorem bytesLetter : Tryd.prog.bytesOf 46 = 48 := by kernel_rfl
theorem hone_letter : oneCellFields Tryd.prog (Tryd.prog.fieldsOf 46) = true := by kernel_rfl
section
variable {H : Type} {enc : TypeId × Value → H}
/-- One letter that came in. -/
theorem letter_in {W : World} {base : Nat} {spare : Nat → Bool} {held : Bool} {n : Nat} {a : Addr} {cs : List Value} {x : DataW H × List MemPlace} (hc : W.cells? base a (Tryd.prog.cellsOf 46) = some cs)
    (h : DataW.trod enc Tryd.prog W base spare held n 46 cs = some x) : ∃ l : Lt, LtOk l ∧ W.cell? (a.add 0) = some (.int .i64 l.kind) ∧ W.cell? (a.add 1) = some (.int .i64 l.gate) ∧ W.cell? (a.add 2) = some (.int .i64 l.rank) ∧ W.cell? (a.add 3) = some (.int .i64 l.id) ∧ W.cell? (a.add 4) = some (.int .i64 l.sign) ∧ W.cell? (a.add 5) = some (.bool l.over) := by
  rw [cellsLetter] at hc
  obtain ⟨_, hl, hcell⟩ := World.cells?_some hc
  obtain ⟨xs, m, _, _, _, hxl, hf⟩ := DataW.trod_struct (fs := Tryd.prog.fieldsOf 46) (by kernel_rfl) h
  have hone := hone_of hone_letter
  have hfs : (Tryd.prog.fieldsOf 46).size = 6 := by kernel_rfl
  have key : ∀ (j : Nat) (f : Field), (Tryd.prog.fieldsOf 46)[j]? = some f → j < 6 → ∃ (v : Value) (y : DataW H × List MemPlace), W.cell? (a.add j) = some v ∧ DataW.trod enc Tryd.prog W base spare held m f.type [v] = some y := by
    intro j f hj hj6
    obtain ⟨ho, hk⟩ := hone j f hj
    have h1 := hf j f hj
    rw [ho, hk] at h1
    have hv : cs[j]? = some (cs[j]'(by omega)) := List.getElem?_eq_getElem (by omega)
    have h2 : (cs.drop j).take 1 = [cs[j]'(by omega)] := by
      rw [List.drop_eq_getElem_cons (by omega)]
      rfl
    rw [h2, List.getElem?_eq_getElem (show j < xs.length by rw [hxl, hfs]; exact hj6)] at h1
    exact ⟨_, _, (hcell j hj6).trans hv, h1⟩
  obtain ⟨v0, y0, c0, t0⟩ := key 0 _ rfl (by omega)
  obtain ⟨v1, y1, c1, t1⟩ := key 1 _ rfl (by omega)
  obtain ⟨v2, y2, c2, t2⟩ := key 2 _ rfl (by omega)
  obtain ⟨v3, y3, c3, t3⟩ := key 3 _ rfl (by omega)
  obtain ⟨v4, y4, c4, t4⟩ := key 4 _ rfl (by omega)
  obtain ⟨v5, y5, c5, t5⟩ := key 5 _ rfl (by omega)
  obtain ⟨k0, e0, _, w0⟩ := DataW.trod_int (k := .i64) (by kernel_rfl) t0
  obtain ⟨k1, e1, _, w1⟩ := DataW.trod_int (k := .i64) (by kernel_rfl) t1
  obtain ⟨k2, e2, _, w2⟩ := DataW.trod_int (k := .i64) (by kernel_rfl) t2
  obtain ⟨k3, e3, _, w3⟩ := DataW.trod_int (k := .i64) (by kernel_rfl) t3
  obtain ⟨k4, e4, _, w4⟩ := DataW.trod_int (k := .i64) (by kernel_rfl) t4
  obtain ⟨k5, e5, _⟩ := DataW.trod_bool (by kernel_rfl) t5
  simp only [List.cons.injEq, and_true] at e0 e1 e2 e3 e4 e5
  subst e0; subst e1; subst e2; subst e3; subst e4; subst e5
  exact ⟨⟨k0, k1, k2, k3, k4, k5⟩, ⟨bounds_i64 w0, bounds_i64 w1, bounds_i64 w2, bounds_i64 w3, bounds_i64 w4⟩, c0, c1, c2, c3, c4, c5⟩
/-- The fields of a code. -/
theorem code_fields : ∃ f0 f1 : Field, Tryd.prog.underlying 24 = some (.struct #[f0, f1]) ∧ oneCellFields Tryd.prog #[f0, f1] = true ∧ f0.type = 3 ∧ f1.type = 22 := ⟨_, _, Tryd.underlying24, by kernel_rfl, rfl, rfl⟩
theorem code_in {W : World} {v : Value} {d : DataW H} {ps : List MemPlace} (h : DataW.Trod enc Tryd.prog W 0 (fun _ => true) true 24 v d ps) {base : Nat} (hv : Value.okWide Tryd.prog W .any base 24 v)
    (hsz : ∀ x ∈ d.weights Tryd.prog 24, x ≤ reachBytes) : ∃ K A n c L, v = .agg #[.int .i64 K, .slice A n c] ∧ I64 K ∧ Lets W A n L ∧ n ≤ c := by
  obtain ⟨f0, f1, hu, hone, hf0, hf1⟩ := code_fields
  obtain ⟨v0, v1, y0, y1, m, rfl, rfl, _, h0, h1⟩ := open_agg2 hu hone cellsCode hv h
  rw [hf0] at h0
  rw [hf1] at h1
  obtain ⟨K, e0, _, w0⟩ := DataW.trod_int Tryd.underlying3 h0
  simp only [List.cons.injEq, and_true] at e0
  subst e0
  rcases open_slice Tryd.underlying22 h1 with ⟨hcs, _⟩ | ⟨a, len, cap, mm, nn, D, Pl, hcs, _, hl, _, hmm, hx, hi⟩
  · simp only [List.cons.injEq, and_true] at hcs
    subst hcs
    exact ⟨K, none, 0, 0, [], rfl, bounds_i64 w0, Lets.nil _ _, Nat.le_refl _⟩
  · simp only [List.cons.injEq, and_true] at hcs
    subst hcs
    simp only [if_true] at hmm
    subst hmm
    have hw : (len + (mm - len)) * 48 ≤ reachBytes := by
      refine hsz _ ?_
      unfold DataW.weights
      rw [hu]
      simp only [List.map_cons, List.map_nil, hf0, hf1]
      refine DataW.weights_mem_each (j := 1) (t := 22) (d := y1.1) rfl rfl _ ?_
      rw [hx]
      unfold DataW.weights
      rw [Tryd.underlying22]
      simp only [List.length_map, List.length_range, bytesLetter, List.mem_cons, true_or]
    rw [reach_is] at hw
    have hlet : ∀ i, i < mm → ∃ l : Lt, LtOk l ∧ W.cell? ((a.add (i * 6)).add 0) = some (.int .i64 l.kind) ∧ W.cell? ((a.add (i * 6)).add 1) = some (.int .i64 l.gate) ∧ W.cell? ((a.add (i * 6)).add 2) = some (.int .i64 l.rank) ∧ W.cell? ((a.add (i * 6)).add 3) = some (.int .i64 l.id) ∧ W.cell? ((a.add (i * 6)).add 4) = some (.int .i64 l.sign) ∧ W.cell? ((a.add (i * 6)).add 5) = some (.bool l.over) := by
      intro i him
      obtain ⟨cs', hc, ht⟩ := hi i him
      rw [cellsLetter] at hc
      exact letter_in (by rw [cellsLetter]; exact hc) ht
    let lf : Nat → Lt := fun i => if h : i < mm then Classical.choose (hlet i h) else dl
    have hlf : ∀ i, i < mm → LtOk (lf i) ∧ W.cell? ((a.add (i * 6)).add 0) = some (.int .i64 (lf i).kind) ∧ W.cell? ((a.add (i * 6)).add 1) = some (.int .i64 (lf i).gate) ∧ W.cell? ((a.add (i * 6)).add 2) = some (.int .i64 (lf i).rank) ∧ W.cell? ((a.add (i * 6)).add 3) = some (.int .i64 (lf i).id) ∧ W.cell? ((a.add (i * 6)).add 4) = some (.int .i64 (lf i).sign) ∧ W.cell? ((a.add (i * 6)).add 5) = some (.bool (lf i).over) := by
      intro i him
      have : lf i = Classical.choose (hlet i him) := dif_pos him
      rw [this]
      exact Classical.choose_spec (hlet i him)
    clear_value lf
    refine ⟨K, some a, len, mm, (List.range len).map lf, rfl, bounds_i64 w0, ⟨by simp, by omega, fun x hx => ?_, fun hn => ?_⟩, hl⟩
    · obtain ⟨i, hi', rfl⟩ := List.mem_map.1 hx
      exact (hlf i (by have := List.mem_range.1 hi'; omega)).1
    · have h00 := (hlf 0 (by omega)).2.1
      have ea : (a.add (0 * 6)).add 0 = a := by simp [Addr.add]
      rw [ea] at h00
      have hsp := World.cell?_spot h00
      have hae : a = ⟨a.block, a.off, none⟩ := by cases a; simp at hsp; subst hsp; rfl
      refine ⟨a.block, a.off, by rw [← hae], World.block_lt_of_cell? _ _ h00, fun j x hx => ?_⟩
      rw [List.getElem?_map] at hx
      obtain ⟨i, hi', rfl⟩ := Option.map_eq_some_iff.1 hx
      have hj : j < len := by
        have := (List.getElem?_eq_some_iff.1 hi').1
        simpa using this
      rw [List.getElem?_range hj] at hi'
      injection hi' with hi'
      subst hi'
      have hq : ∀ q, (a.add (j * 6)).add q = ⟨a.block, a.off + j * 6 + q, none⟩ := fun q => by
        rw [hae, Addr.add_lit, Addr.add_lit]
      obtain ⟨_, k0, k1, k2, k3, k4, k5⟩ := hlf j (by omega)
      rw [hq] at k0 k1 k2 k3 k4 k5
      exact ⟨k0, k1, k2, k3, k4, k5⟩
theorem sized_code {ts : List TypeId} {ds : List (DataW H)} (h : (DataW.weightsEach Tryd.prog ts ds).all (· ≤ reachBytes) = true) {j : Nat} {d : DataW H} (ht : ts[j]? = some 24) (hd : ds[j]? = some d) :
    ∀ x ∈ d.weights Tryd.prog 24, x ≤ reachBytes := fun x hx => by
  have := List.all_eq_true.1 h x (DataW.weights_mem_each ht hd x hx)
  simpa using this
end
end

section
open Go.ChangeShapes Go.WideShapes Go.ChangeAt Go.WideElems Go.RowKit Go.Deep Go.Joins
set_option maxRecDepth 100000
theorem recPlace : Tryd.prog.readableRec 50 = true ∧ 50 < Tryd.prog.types.size := ⟨by kernel_rfl, of_decide_eq_true (by kernel_rfl)⟩
theorem cellsPlace : Tryd.prog.cellsOf 50 = 2 := by kernel_rfl
section
variable {H : Type} {enc : TypeId × Value → H}
theorem place_fields : ∃ f0 f1 : Field, Tryd.prog.underlying 50 = some (.struct #[f0, f1]) ∧ oneCellFields Tryd.prog #[f0, f1] = true ∧ f0.type = 3 ∧ f1.type = 3 := ⟨_, _, Tryd.underlying50, by kernel_rfl, rfl, rfl⟩
theorem place_in {W : World} {v : Value} {d : DataW H} {ps : List MemPlace} (h : DataW.Trod enc Tryd.prog W 0 (fun _ => true) true 50 v d ps) {base : Nat} (hv : Value.okWide Tryd.prog W .any base 50 v) :
    ∃ g r, v = .agg #[.int .i64 g, .int .i64 r] ∧ I64 g ∧ I64 r := by
  obtain ⟨f0, f1, hu, hone, hf0, hf1⟩ := place_fields
  obtain ⟨v0, v1, y0, y1, m, rfl, rfl, _, h0, h1⟩ := open_agg2 hu hone cellsPlace hv h
  rw [hf0] at h0
  rw [hf1] at h1
  obtain ⟨g, e0, _, w0⟩ := DataW.trod_int Tryd.underlying3 h0
  obtain ⟨r, e1, _, w1⟩ := DataW.trod_int Tryd.underlying3 h1
  simp only [List.cons.injEq, and_true] at e0 e1
  subst e0; subst e1
  exact ⟨g, r, rfl, bounds_i64 w0, bounds_i64 w1⟩
end
end
end Go.Proofs.YtkjcmppaapbabaaDoor
