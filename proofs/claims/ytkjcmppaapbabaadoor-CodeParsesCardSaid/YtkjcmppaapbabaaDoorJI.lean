/-
  A drawn region walked once for a class of worlds: the frame is kept as a list of what was written, and tests that are not decided stay letters. No condition.
  Single operations of this program: addresses of fields, loads, comparisons. No condition.
  More single operations of this program. No condition.
-/
import Derived.Test.YtkjcmppaapbabaaDoorJB
import Derived.Deep.Quiet
namespace Go.Proofs.YtkjcmppaapbabaaDoor
section
open Go.RowKit
/-- A frame with some slots written, the last one first. -/
def frm (a : Act) : List (Nat × Value) → Act
  | [] => a
  | p :: e => (frm a e).put (some p.1) p.2
def look (r : Operand → Value) (e : List (Nat × Value)) : Operand → Value
  | .tmp i => (e.lookup i).getD (r (.tmp i))
  | x => r x
def within (n : Nat) (e : List (Nat × Value)) : Prop := ∀ p ∈ e, p.1 < n
theorem frm_size (a : Act) : ∀ e : List (Nat × Value), (frm a e).tmps.size = a.tmps.size
  | [] => rfl
  | p :: e => by
    show ((frm a e).tmps.setIfInBounds p.1 p.2).size = _
    rw [Array.size_setIfInBounds, frm_size a e]
theorem frm_eval {a : Act} : ∀ {e : List (Nat × Value)}, within a.tmps.size e → (frm a e).eval = look a.eval e
  | [], _ => by funext x; cases x <;> rfl
  | p :: e, h => by
    have ih := frm_eval (a := a) (e := e) (fun q hq => h q (List.mem_cons_of_mem _ hq))
    have hp : p.1 < (frm a e).tmps.size := by rw [frm_size]; exact h p (List.mem_cons_self ..)
    funext x
    cases x with
    | tmp i =>
      have ihi := congrFun ih (.tmp i)
      show ((frm a e).tmps.setIfInBounds p.1 p.2).getD i undef = ((p :: e).lookup i).getD _
      change (frm a e).tmps.getD i undef = (e.lookup i).getD _ at ihi
      obtain ⟨d, v⟩ := p
      by_cases hd : i = d
      · subst hd
        rw [List.lookup_cons_self]
        simp only [Array.getD_eq_getD_getElem?, Option.getD_some]
        rw [Array.getElem?_setIfInBounds_self_of_lt (by exact hp)]
        rfl
      · rw [List.lookup_cons, show (i == d) = false by simpa using hd]
        simp only [Array.getD_eq_getD_getElem?] at ihi ⊢
        rw [Array.getElem?_setIfInBounds_ne (fun h => hd h.symm)]
        exact ihi
    | const v => exact congrFun ih (.const v)
    | global g => exact congrFun ih (.global g)
    | func f => exact congrFun ih (.func f)
def boolOf : Value → Option Bool
  | .bool b => some b
  | _ => none
def wantE (ops : Array Oper) (r : Operand → Value) (e : List (Nat × Value)) (o : Oper) : Bool :=
  Region.wanted o fun j => match (ops[j]?).bind (·.dst) with
    | some d => boolOf (look r e (.tmp d))
    | none => none
def outE (o : Oper) (v : Value) (e : List (Nat × Value)) : List (Nat × Value) := match o.dst with
  | some d => (d, v) :: e
  | none => e
/-- The walk over the list of what was written. -/
def wk (P : Program) (ops : Array Oper) (C : World → Prop) (Q : List (Nat × Value) → Prop) (r : Operand → Value) : List Oper → List (Nat × Value) → Prop
  | [], e => Q e
  | o :: l, e => ∃ (b : Bool) (v : Value), wantE ops r e o = b ∧ (b = true → ∀ w, C w → Oper.quietUpon P C w v ((execOp (look r e) o).run P w)) ∧ wk P ops C Q r l (outE o (cond b v undef) e)
theorem yielded_look {ops : Array Oper} {a : Act} {e : List (Nat × Value)} (h : within a.tmps.size e) (j : Nat) : yielded ops (frm a e).tmps j = (match (ops[j]?).bind (·.dst) with
    | some d => boolOf (look a.eval e (.tmp d))
    | none => none) := by
  unfold yielded
  cases hd : (ops[j]?).bind (·.dst) with
  | none => rfl
  | some d =>
    have := congrFun (frm_eval h) (.tmp d)
    change (frm a e).tmps.getD d undef = _ at this
    show (match (frm a e).tmps[d]? with | some (.bool b) => some b | _ => none) = boolOf (look a.eval e (.tmp d))
    rw [← this]
    simp only [Array.getD_eq_getD_getElem?]
    cases (frm a e).tmps[d]? with
    | none => rfl
    | some v => cases v <;> rfl
section
variable {P : Program} {ops : Array Oper} {C : World → Prop} {Q : List (Nat × Value) → Prop} {a : Act}
theorem outE_within {n : Nat} {o : Oper} {v : Value} {e : List (Nat × Value)} (h : within n e) (ho : ∀ d, o.dst = some d → d < n) : within n (outE o v e) := by
  unfold outE
  cases hd : o.dst with
  | none => exact h
  | some d =>
    intro p hp
    rcases List.mem_cons.1 hp with rfl | hp
    · exact ho d hd
    · exact h p hp
theorem wk_quiet {R : Act → Prop} (hQ : ∀ e, within a.tmps.size e → Q e → R (frm a e)) : ∀ (l : List Oper) (e : List (Nat × Value)), within a.tmps.size e → (∀ o ∈ l, ∀ d, o.dst = some d → d < a.tmps.size) →
    wk P ops C Q a.eval l e → wpQuiet P ops C R l (frm a e)
  | [], e, he, _, h => hQ e he h
  | o :: l, e, he, hl, ⟨b, v, hw, hq, hk⟩ => by
    have hout : (frm a e).put o.dst (cond b v undef) = frm a (outE o (cond b v undef) e) := by
      unfold outE
      cases o.dst <;> rfl
    have ih := wk_quiet hQ l (outE o (cond b v undef) e) (outE_within he (hl o (List.mem_cons_self ..))) (fun o' ho' => hl o' (List.mem_cons_of_mem _ ho')) hk
    have hwant : Region.wanted o (yielded ops (frm a e).tmps) = b := by
      rw [← hw]
      unfold wantE
      exact congrArg (Region.wanted o) (funext fun j => yielded_look he j)
    unfold wpQuiet
    rw [hwant]
    rw [← hout] at ih
    cases b with
    | true =>
      rw [if_pos rfl]
      refine ⟨v, fun w hC => ?_, ih⟩
      unfold Oper.quietAt
      rw [frm_eval he]
      exact hq rfl w hC
    | false =>
      rw [if_neg (by simp)]
      exact ih
def dstsB (l : List Oper) (n : Nat) : Bool := l.all fun o => match o.dst with
  | some d => decide (d < n)
  | none => true
theorem dstsB_spec {l : List Oper} {n : Nat} (h : dstsB l n = true) : ∀ o ∈ l, ∀ d, o.dst = some d → d < n := by
  intro o ho d hd
  have := List.all_eq_true.1 h o ho
  rw [hd] at this
  simpa using this
/-- The beginning: a region that draws, its operations quiet in the class C. 'e': what the frame is known to hold. -/
theorem wk_region {id : Nat} {Q' : Exit → Act → World → Prop} {w : World} {l : List Oper} (n : Nat) (e : List (Nat × Value)) (hm : P.follows .mixedOrders = true) (hB : Region.lexB .any l.toArray = true)
    (hn : a.tmps.size = n) (hd : dstsB l n = true) (he : within n e) (hf : frm a e = a) (hC : C { w with drawn := w.drawn + 1 })
    (h : ∀ r : Operand → Value, (∀ v, r (.const v) = v) → (∀ k, r (.func k) = .func (.func k) #[] #[]) → wk P l.toArray C (fun e' => ∀ w', C w' → Q' .normal (frm a e') w') r l e) : (Code.region id l.toArray true).wp P Q' a w := by
  refine wp_region_quiet hm hB hC ?_
  subst hn
  have := wk_quiet (R := fun a' => ∀ w', C w' → Q' .normal a' w') (fun e _ h => h) l e he (dstsB_spec hd) (h a.eval (fun _ => rfl) (fun _ => rfl))
  rw [hf] at this
  simpa using this
theorem wpOps_quiet {Q' : Exit → Act → World → Prop} : ∀ (l : List Oper) (k : Nat) (a : Act) (w : World), (∀ j, l[j]? = ops[k + j]?) → C w → wpQuiet P ops C (fun a' => ∀ w', C w' → Q' .normal a' w') l a → wpOps P ops Q' (List.range' k l.length) a w
  | [], _, _, w, _, hC, h => h w hC
  | o :: l, k, a, w, hl, hC, h => by
    have h0 : ops[k]? = some o := by simpa using (hl 0).symm
    have hq : qOp P ops C k (wpQuiet P ops C (fun a' => ∀ w', C w' → Q' .normal a' w') l) a := by unfold qOp; simp only [h0]; exact h
    rw [List.length_cons, List.range'_succ, wpOps_cons]
    exact wpOp_of_qOp hC (fun a' w' hw' h' => wpOps_quiet l (k + 1) a' w' (fun j => by have := hl (j + 1); simpa [Nat.add_assoc, Nat.add_comm 1 j] using this) hw' h') hq
/-- The same for a region in the text's order. -/
theorem wk_region0 {id : Nat} {Q' : Exit → Act → World → Prop} {w : World} {l : List Oper} (n : Nat) (e : List (Nat × Value))
    (hn : a.tmps.size = n) (hd : dstsB l n = true) (he : within n e) (hf : frm a e = a) (hC : C w)
    (h : ∀ r : Operand → Value, (∀ v, r (.const v) = v) → (∀ k, r (.func k) = .func (.func k) #[] #[]) → wk P l.toArray C (fun e' => ∀ w', C w' → Q' .normal (frm a e') w') r l e) : (Code.region id l.toArray false).wp P Q' a w := by
  subst hn
  have := wk_quiet (R := fun a' => ∀ w', C w' → Q' .normal a' w') (fun e _ h => h) l e he (dstsB_spec hd) (h a.eval (fun _ => rfl) (fun _ => rfl))
  rw [hf] at this
  have h2 := wpOps_quiet (ops := l.toArray) (Q' := Q') l 0 a w (fun j => by simp) hC this
  refine wp_region ?_
  rw [List.range_eq_range']
  simpa using h2
/-- A slot that already holds what is put. -/
theorem frm_same {d : Nat} {v : Value} {e : List (Nat × Value)} (hf : frm a e = a) (hd : d < a.tmps.size) (hv : a.tmps.getD d undef = v) : frm a ((d, v) :: e) = a := by
  show (frm a e).put (some d) v = a
  rw [hf]
  cases a with
  | mk T D =>
    show Act.mk (T.setIfInBounds d v) D = _
    congr 1
    apply Array.ext_getElem?
    intro i
    rw [Array.getElem?_setIfInBounds]
    by_cases e : d = i
    · subst e
      rw [if_pos rfl]
      change d < T.size at hd
      rw [if_pos hd, ← hv]
      simp [hd]
    · rw [if_neg e]
variable {r : Operand → Value} {o : Oper} {l : List Oper} {e : List (Nat × Value)} {v : Value} {b g c : Bool} {j d : Nat}
theorem wk_one (hg : o.guard = none) (hq : ∀ w, C w → Oper.quietUpon P C w v ((execOp (look r e) o).run P w)) (hk : wk P ops C Q r l (outE o v e)) : wk P ops C Q r (o :: l) e :=
  ⟨true, v, by unfold wantE Region.wanted; rw [hg], fun _ => hq, hk⟩
theorem wk_grd (hw : wantE ops r e o = b) (hq : b = true → ∀ w, C w → Oper.quietUpon P C w v ((execOp (look r e) o).run P w)) (hk : wk P ops C Q r l (outE o (cond b v undef) e)) : wk P ops C Q r (o :: l) e := ⟨b, v, hw, hq, hk⟩
theorem want_t (hg : o.guard = some (j, true)) (hd : (ops[j]?).bind (·.dst) = some d) (hl : look r e (.tmp d) = .bool b) : wantE ops r e o = b := by
  unfold wantE Region.wanted
  rw [hg]
  show ((match (ops[j]?).bind (·.dst) with | some d => boolOf (look r e (.tmp d)) | none => none) == some true) = b
  rw [hd]
  show (boolOf (look r e (.tmp d)) == some true) = b
  rw [hl]
  cases b <;> rfl
theorem want_f (hg : o.guard = some (j, false)) (hd : (ops[j]?).bind (·.dst) = some d) (hl : look r e (.tmp d) = .bool b) : wantE ops r e o = !b := by
  unfold wantE Region.wanted
  rw [hg]
  show ((match (ops[j]?).bind (·.dst) with | some d => boolOf (look r e (.tmp d)) | none => none) == some false) = !b
  rw [hd]
  show (boolOf (look r e (.tmp d)) == some false) = !b
  rw [hl]
  cases b <;> rfl
theorem boolOf_undef : boolOf undef = none := rfl
theorem want_ct (hg : o.guard = some (j, true)) (hd : (ops[j]?).bind (·.dst) = some d) (hl : look r e (.tmp d) = cond g (.bool c) undef) : wantE ops r e o = (g && c) := by
  unfold wantE Region.wanted
  rw [hg]
  show ((match (ops[j]?).bind (·.dst) with | some d => boolOf (look r e (.tmp d)) | none => none) == some true) = (g && c)
  rw [hd]
  show (boolOf (look r e (.tmp d)) == some true) = (g && c)
  rw [hl]
  cases g <;> cases c <;> rfl
theorem want_cf (hg : o.guard = some (j, false)) (hd : (ops[j]?).bind (·.dst) = some d) (hl : look r e (.tmp d) = cond g (.bool c) undef) : wantE ops r e o = (g && !c) := by
  unfold wantE Region.wanted
  rw [hg]
  show ((match (ops[j]?).bind (·.dst) with | some d => boolOf (look r e (.tmp d)) | none => none) == some false) = (g && !c)
  rw [hd]
  show (boolOf (look r e (.tmp d)) == some false) = (g && !c)
  rw [hl]
  cases g <;> cases c <;> rfl
end
/-- A written out frame with some slots written. -/
def upd (e : List (Nat × Value)) : Nat → List Value → List Value
  | _, [] => []
  | i, v :: l => (e.lookup i).getD v :: upd e (i + 1) l
theorem upd_nil : ∀ (l : List Value) (i : Nat), upd [] i l = l
  | [], _ => rfl
  | v :: l, i => congrArg (v :: ·) (upd_nil l (i + 1))
theorem upd_low (e : List (Nat × Value)) (v : Value) : ∀ (l : List Value) (i q : Nat), q < i → upd ((q, v) :: e) i l = upd e i l
  | [], _, _, _ => rfl
  | x :: l, i, q, h => by
    unfold upd
    rw [upd_low e v l (i + 1) q (by omega), List.lookup_cons, show (i == q) = false by simp; omega]
theorem upd_set (e : List (Nat × Value)) (v : Value) : ∀ (l : List Value) (i k : Nat), (upd e i l).set k v = upd ((i + k, v) :: e) i l
  | [], _, _ => rfl
  | x :: l, i, 0 => by
    show v :: upd e (i + 1) l = upd ((i, v) :: e) i (x :: l)
    conv => rhs; unfold upd
    rw [List.lookup_cons_self, upd_low e v l (i + 1) i (by omega)]
    rfl
  | x :: l, i, k + 1 => by
    show (e.lookup i).getD x :: (upd e (i + 1) l).set k v = upd ((i + (k + 1), v) :: e) i (x :: l)
    rw [upd_set e v l (i + 1) k]
    conv => rhs; unfold upd
    rw [List.lookup_cons, show (i == i + (k + 1)) = false by simp, show i + 1 + k = i + (k + 1) by omega]
theorem frm_upd (l : List Value) (d : List Deferred) : ∀ e : List (Nat × Value), frm ⟨l.toArray, d⟩ e = ⟨(upd e 0 l).toArray, d⟩
  | [] => by rw [upd_nil]; rfl
  | (k, v) :: e => by
    show (frm ⟨l.toArray, d⟩ e).put (some k) v = _
    rw [frm_upd l d e]
    show Act.mk ((upd e 0 l).toArray.setIfInBounds k v) d = _
    rw [List.setIfInBounds_toArray, upd_set, Nat.zero_add]
section
variable {P : Program} {C : World → Prop} {ρ : Operand → Value} {o : Oper} {w : World} {x y : Operand} {v p q : Value} {s f : Nat} {B c : Bool}
theorem q_move (ho : o.op = .move x) (hx : ρ x = v) : Oper.quietUpon P C w v ((execOp ρ o).run P w) := by
  unfold execOp
  rw [ho]
  exact ⟨rfl, hx⟩
theorem q_assign (ho : o.op = .assign x) (hx : ρ x = v) : Oper.quietUpon P C w v ((execOp ρ o).run P w) := by
  unfold execOp
  rw [ho]
  exact ⟨rfl, hx⟩
theorem q_or (ho : o.op = .pick x (.const (.bool true)) y) (hk : ∀ v, ρ (.const v) = v) (hx : ρ x = .bool B) (hy : ρ y = cond (!B) (.bool c) undef) : Oper.quietUpon P C w (.bool (B || c)) ((execOp ρ o).run P w) := by
  unfold execOp
  rw [ho]
  simp only [hx, hy, hk]
  cases B <;> exact ⟨rfl, rfl⟩
theorem q_and (ho : o.op = .pick x y (.const (.bool false))) (hk : ∀ v, ρ (.const v) = v) (hx : ρ x = .bool B) (hy : ρ y = cond B (.bool c) undef) : Oper.quietUpon P C w (.bool (B && c)) ((execOp ρ o).run P w) := by
  unfold execOp
  rw [ho]
  simp only [hx, hy, hk]
  cases B <;> exact ⟨rfl, rfl⟩
theorem cnd {g : Bool} {u : Value} (h : g = true) : cond g v u = v := by rw [h]; rfl
theorem q_val {m : Sem Value} (hm : execOp ρ o = (do pure (.value (← m)))) (hr : m.run P w = .ok q w) : Oper.quietUpon P C w q ((execOp ρ o).run P w) := by
  rw [hm, Sem.run_bind, hr]
  exact ⟨rfl, rfl⟩
theorem q_fa (ho : o.op = .fieldAddr s x f) (hx : ρ x = p) (hr : (Instr.fieldAt s p f).run P w = .ok q w) : Oper.quietUpon P C w q ((execOp ρ o).run P w) :=
  q_val (m := Instr.fieldAt s p f) (by unfold execOp; rw [ho, ← hx]) hr
theorem q_ld (ho : o.op = .load s x) (hx : ρ x = p) (hr : (Instr.loadAt s p).run P w = .ok q w) : Oper.quietUpon P C w q ((execOp ρ o).run P w) :=
  q_val (m := Instr.loadAt s p) (by unfold execOp; rw [ho, ← hx]) hr
theorem q_bin {bo : BinOp} {t t' : TypeId} {X Y : Value} (ho : o.op = .binOp bo t x y t') (hx : ρ x = X) (hy : ρ y = Y) (hr : (do eqGuard bo t x y X Y; binOp bo t X Y).run P w = .ok q w) : Oper.quietUpon P C w q ((execOp ρ o).run P w) :=
  q_val (m := do eqGuard bo t x y X Y; binOp bo t X Y) (by unfold execOp; rw [ho, ← hx, ← hy]) hr
theorem map1 {v : Value} (hx : ρ x = v) : #[x].map ρ = #[v] := by simp [hx]
theorem map2 {v u : Value} (hx : ρ x = v) (hy : ρ y = u) : #[x, y].map ρ = #[v, u] := by simp [hx, hy]
theorem q_call {k : FuncId} {xs : Array Operand} {ts : Array TypeId} {vs : Array Value} (ho : o.op = .call { callee := .value (.func k), args := xs, argTypes := ts }) (hk : ρ (.func k) = .func (.func k) #[] #[]) (hx : xs.map ρ = vs)
    (hr : (callFunc k vs).run P w = .ok (.enter k vs) w) (hc : Calls P k vs w fun e w'' => e = .returned v ∧ C w'') : Oper.quietUpon P C w v ((execOp ρ o).run P w) := by
  have : (execOp ρ o).run P w = .ok (.enter k vs) w := by
    unfold execOp
    rw [ho]
    simp only [resolve, hk, hx]
    go_simp
  rw [this]
  exact ⟨rfl, hc⟩
end
end

section
open Go.RowKit
theorem fa_lt (b o f : Nat) (h : f < 6) (w : World) : (Instr.fieldAt 46 (.pointer (some ⟨b, o, none⟩)) f).run Tryd.prog w = .ok (.pointer (some ⟨b, o + f, none⟩)) w := by
  rcases (show f = 0 ∨ f = 1 ∨ f = 2 ∨ f = 3 ∨ f = 4 ∨ f = 5 by omega) with rfl | rfl | rfl | rfl | rfl | rfl <;> go_simp
theorem fa_code (b o f : Nat) (h : f < 2) (w : World) : (Instr.fieldAt 24 (.pointer (some ⟨b, o, none⟩)) f).run Tryd.prog w = .ok (.pointer (some ⟨b, o + f, none⟩)) w := by
  rcases (show f = 0 ∨ f = 1 by omega) with rfl | rfl <;> go_simp
theorem fa_plc (b o f : Nat) (h : f < 2) (w : World) : (Instr.fieldAt 50 (.pointer (some ⟨b, o, none⟩)) f).run Tryd.prog w = .ok (.pointer (some ⟨b, o + f, none⟩)) w := by
  rcases (show f = 0 ∨ f = 1 by omega) with rfl | rfl <;> go_simp
theorem ld_int {p : Addr} {v : Int} {w : World} (h : w.cell? p = some (.int .i64 v)) : (Instr.loadAt 3 (.pointer (some p))).run Tryd.prog w = .ok (.int .i64 v) w := by go_simp
theorem ld_kind {p : Addr} {v : Int} {w : World} (h : w.cell? p = some (.int .i64 v)) : (Instr.loadAt 44 (.pointer (some p))).run Tryd.prog w = .ok (.int .i64 v) w := by go_simp
theorem ld_bool {p : Addr} {v : Bool} {w : World} (h : w.cell? p = some (.bool v)) : (Instr.loadAt 4 (.pointer (some p))).run Tryd.prog w = .ok (.bool v) w := by go_simp
theorem ld_code {b o : Nat} {K : Int} {A : Option Addr} {n c : Nat} {w : World} (h0 : w.cell? ⟨b, o, none⟩ = some (.int .i64 K)) (h1 : w.cell? ⟨b, o + 1, none⟩ = some (.slice A n c)) : (Instr.loadAt 24 (.pointer (some ⟨b, o, none⟩))).run Tryd.prog w = .ok (.agg #[.int .i64 K, .slice A n c]) w := by go_simp
section
variable {x y : Operand} {w : World} {X Y : Int} {b : Bool} {t : TypeId}
theorem bo_neq (h : (X != Y) = b) : (do eqGuard .neq 3 x y (.int .i64 X) (.int .i64 Y); binOp .neq 3 (.int .i64 X) (.int .i64 Y) : Sem Value).run Tryd.prog w = .ok (.bool b) w := by subst h; go_simp
theorem bo_eql (h : (X == Y) = b) : (do eqGuard .eql 3 x y (.int .i64 X) (.int .i64 Y); binOp .eql 3 (.int .i64 X) (.int .i64 Y) : Sem Value).run Tryd.prog w = .ok (.bool b) w := by subst h; go_simp
theorem bo_eqlK (h : (X == Y) = b) : (do eqGuard .eql 44 x y (.int .i64 X) (.int .i64 Y); binOp .eql 44 (.int .i64 X) (.int .i64 Y) : Sem Value).run Tryd.prog w = .ok (.bool b) w := by subst h; go_simp
theorem bo_neqB {X Y : Bool} (h : (X != Y) = b) : (do eqGuard .neq 4 x y (.bool X) (.bool Y); binOp .neq 4 (.bool X) (.bool Y) : Sem Value).run Tryd.prog w = .ok (.bool b) w := by subst h; go_simp; cases X <;> cases Y <;> rfl
theorem bo_lss (h : decide (X < Y) = b) : (do eqGuard .lss 3 x y (.int .i64 X) (.int .i64 Y); binOp .lss 3 (.int .i64 X) (.int .i64 Y) : Sem Value).run Tryd.prog w = .ok (.bool b) w := by subst h; go_simp
theorem bo_geq (h : decide (Y ≤ X) = b) : (do eqGuard .geq 3 x y (.int .i64 X) (.int .i64 Y); binOp .geq 3 (.int .i64 X) (.int .i64 Y) : Sem Value).run Tryd.prog w = .ok (.bool b) w := by subst h; go_simp
theorem bo_leq (h : decide (X ≤ Y) = b) : (do eqGuard .leq 3 x y (.int .i64 X) (.int .i64 Y); binOp .leq 3 (.int .i64 X) (.int .i64 Y) : Sem Value).run Tryd.prog w = .ok (.bool b) w := by subst h; go_simp
theorem bo_gtr (h : decide (Y < X) = b) : (do eqGuard .gtr 3 x y (.int .i64 X) (.int .i64 Y); binOp .gtr 3 (.int .i64 X) (.int .i64 Y) : Sem Value).run Tryd.prog w = .ok (.bool b) w := by subst h; go_simp
theorem bo_half (n : Nat) (h : n ≤ 1000000) : (do eqGuard .quo 3 x y (.int .i64 (n : Int)) (.int .i64 2); binOp .quo 3 (.int .i64 (n : Int)) (.int .i64 2) : Sem Value).run Tryd.prog w = .ok (.int .i64 ((n / 2 : Nat) : Int)) w := by
  have v2 : IntKind.i64.wrap ((n : Int) / 2) = (n : Int) / 2 := IntWalk.i64_in _ (by omega)
  go_simp
end
theorem en_In (vs : Array Value) (w : World) : (callFunc 89 vs).run Tryd.prog w = .ok (.enter 89 vs) w := by go_simp
theorem en_visits (vs : Array Value) (w : World) : (callFunc 76 vs).run Tryd.prog w = .ok (.enter 76 vs) w := by go_simp
theorem en_times (vs : Array Value) (w : World) : (callFunc 120 vs).run Tryd.prog w = .ok (.enter 120 vs) w := by go_simp
end

section
open Go.RowKit
section
variable {P : Program} {C : World → Prop} {ρ : Operand → Value} {o : Oper} {w : World} {x y : Operand} {q : Value}
theorem q_un {u : UnOp} {t : TypeId} {X : Value} (ho : o.op = .unOp u t x) (hx : ρ x = X) (hr : (Op.unary u X).run P w = .ok q w) : Oper.quietUpon P C w q ((execOp ρ o).run P w) :=
  q_val (m := Op.unary u X) (by unfold execOp; rw [ho, ← hx]) hr
theorem q_ix {t : TypeId} {X I : Value} (ho : o.op = .indexAddr t x y) (hx : ρ x = X) (hy : ρ y = I) (hr : (Instr.indexAt t X I).run P w = .ok q w) : Oper.quietUpon P C w q ((execOp ρ o).run P w) :=
  q_val (m := Instr.indexAt t X I) (by unfold execOp; rw [ho, ← hx, ← hy]) hr
end
theorem un_not (b : Bool) (w : World) : (Op.unary .not (.bool b)).run Tryd.prog w = .ok (.bool (!b)) w := by go_simp
theorem ix_first {g o n c : Nat} (h : (0 : Int) < (n : Int)) (w : World) : (Instr.indexAt 22 (.slice (some ⟨g, o, none⟩) n c) (.int .i64 0)).run Tryd.prog w = .ok (.pointer (some ⟨g, o, none⟩)) w := by
  go_simp
  intro e
  omega
theorem ld_lets {p : Addr} {A : Option Addr} {n c : Nat} {w : World} (h : w.cell? p = some (.slice A n c)) : (Instr.loadAt 22 (.pointer (some p))).run Tryd.prog w = .ok (.slice A n c) w := by go_simp
section
variable {x y : Operand} {w : World} {X Y : Int} {b : Bool}
theorem bo_neqK (h : (X != Y) = b) : (do eqGuard .neq 44 x y (.int .i64 X) (.int .i64 Y); binOp .neq 44 (.int .i64 X) (.int .i64 Y) : Sem Value).run Tryd.prog w = .ok (.bool b) w := by subst h; go_simp
theorem bo_rem2 (p : Nat) (h : p ≤ 1000000000) : (do eqGuard .rem 3 x y (.int .i64 (p : Int)) (.int .i64 2); binOp .rem 3 (.int .i64 (p : Int)) (.int .i64 2) : Sem Value).run Tryd.prog w = .ok (.int .i64 ((p : Int) % 2)) w := by
  have s3 : IntKind.i64.wrap ((p : Int) % 2) = (p : Int) % 2 := IntWalk.i64_in _ (by omega)
  have s4 : (p : Int).tmod 2 = (p : Int) % 2 := Int.tmod_eq_emod_of_nonneg (by omega)
  go_simp
end
theorem en_letters (vs : Array Value) (w : World) : (callFunc 77 vs).run Tryd.prog w = .ok (.enter 77 vs) w := by go_simp
end
end Go.Proofs.YtkjcmppaapbabaaDoor
