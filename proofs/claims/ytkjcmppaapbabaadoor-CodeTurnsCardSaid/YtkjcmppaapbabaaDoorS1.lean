/-
  Single operations of this program: addresses of fields, loads, comparisons. No condition.
-/
import Derived.Test.YtkjcmppaapbabaaDoorS0
import Derived.Test.YtkjcmppaapbabaaDoorJB
namespace Go.Proofs.YtkjcmppaapbabaaDoor
open Go.RowKit
theorem fa_lt (b o f : Nat) (h : f < 6) (w : World) : (Instr.fieldAt 46 (.pointer (some ⟨b, o, none⟩)) f).run Tryd.prog w = .ok (.pointer (some ⟨b, o + f, none⟩)) w := by
  rcases (show f = 0 ∨ f = 1 ∨ f = 2 ∨ f = 3 ∨ f = 4 ∨ f = 5 by omega) with rfl | rfl | rfl | rfl | rfl | rfl <;> go_simp
theorem fa_code (b o f : Nat) (h : f < 2) (w : World) : (Instr.fieldAt 24 (.pointer (some ⟨b, o, none⟩)) f).run Tryd.prog w = .ok (.pointer (some ⟨b, o + f, none⟩)) w := by
  rcases (show f = 0 ∨ f = 1 by omega) with rfl | rfl <;> go_simp
theorem fa_plc (b o f : Nat) (h : f < 2) (w : World) : (Instr.fieldAt 50 (.pointer (some ⟨b, o, none⟩)) f).run Tryd.prog w = .ok (.pointer (some ⟨b, o + f, none⟩)) w := by
  rcases (show f = 0 ∨ f = 1 by omega) with rfl | rfl <;> go_simp
theorem ld_int {p : Addr} {v : Int} {w : World} (h : w.cell? p = some (.int .i64 v)) : (Instr.loadAt 3 (.pointer (some p))).run Tryd.prog w = .ok (.int .i64 v) w := by go_simp
theorem ld_kind {p : Addr} {v : Int} {w : World} (h : w.cell? p = some (.int .i64 v)) : (Instr.loadAt 44 (.pointer (some p))).run Tryd.prog w = .ok (.int .i64 v) w := by go_simp
theorem ld_bool {p : Addr} {v : Bool} {w : World} (h : w.cell? p = some (.bool v)) : (Instr.loadAt 4 (.pointer (some p))).run Tryd.prog w = .ok (.bool v) w := by go_simp
theorem ld_code {b o : Nat} {K : Int} {A : Option Addr} {n c : Nat} {w : World} (h0 : w.cell? ⟨b, o, none⟩ = some (.int .i64 K)) (h1 : w.cell? ⟨b, o + 1, none⟩ = some (.slice A n c)) : (Instr.loadAt 24 (.pointer (some ⟨b, o, none⟩))).run Tryd.prog w = .ok (.agg #[.int .i64 K, .slice A n c]) w := by go_simp
section
variable {x y : Operand} {w : World} {X Y : Int} {b : Bool} {t : TypeId}
theorem bo_neq (h : (X != Y) = b) : (do eqGuard .neq 3 x y (.int .i64 X) (.int .i64 Y); binOp .neq 3 (.int .i64 X) (.int .i64 Y) : Sem Value).run Tryd.prog w = .ok (.bool b) w := by subst h; go_simp
theorem bo_eql (h : (X == Y) = b) : (do eqGuard .eql 3 x y (.int .i64 X) (.int .i64 Y); binOp .eql 3 (.int .i64 X) (.int .i64 Y) : Sem Value).run Tryd.prog w = .ok (.bool b) w := by subst h; go_simp
theorem bo_eqlK (h : (X == Y) = b) : (do eqGuard .eql 44 x y (.int .i64 X) (.int .i64 Y); binOp .eql 44 (.int .i64 X) (.int .i64 Y) : Sem Value).run Tryd.prog w = .ok (.bool b) w := by subst h; go_simp
theorem bo_neqB {X Y : Bool} (h : (X != Y) = b) : (do eqGuard .neq 4 x y (.bool X) (.bool Y); binOp .neq 4 (.bool X) (.bool Y) : Sem Value).run Tryd.prog w = .ok (.bool b) w := by subst h; go_simp; cases X <;> cases Y <;> rfl
theorem bo_lss (h : decide (X < Y) = b) : (do eqGuard .lss 3 x y (.int .i64 X) (.int .i64 Y); binOp .lss 3 (.int .i64 X) (.int .i64 Y) : Sem Value).run Tryd.prog w = .ok (.bool b) w := by subst h; go_simp
theorem bo_geq (h : decide (Y ≤ X) = b) : (do eqGuard .geq 3 x y (.int .i64 X) (.int .i64 Y); binOp .geq 3 (.int .i64 X) (.int .i64 Y) : Sem Value).run Tryd.prog w = .ok (.bool b) w := by subst h; go_simp
theorem bo_leq (h : decide (X ≤ Y) = b) : (do eqGuard .leq 3 x y (.int .i64 X) (.int .i64 Y); binOp .leq 3 (.int .i64 X) (.int .i64 Y) : Sem Value).run Tryd.prog w = .ok (.bool b) w := by subst h; go_simp
theorem bo_gtr (h : decide (Y < X) = b) : (do eqGuard .gtr 3 x y (.int .i64 X) (.int .i64 Y); binOp .gtr 3 (.int .i64 X) (.int .i64 Y) : Sem Value).run Tryd.prog w = .ok (.bool b) w := by subst h; go_simp
theorem bo_half (n : Nat) (h : n ≤ 1000000) : (do eqGuard .quo 3 x y (.int .i64 (n : Int)) (.int .i64 2); binOp .quo 3 (.int .i64 (n : Int)) (.int .i64 2) : Sem Value).run Tryd.prog w = .ok (.int .i64 ((n / 2 : Nat) : Int)) w := by
  have v2 : IntKind.i64.wrap ((n : Int) / 2) = (n : Int) / 2 := IntWalk.i64_in _ (by omega)
  go_simp
end
theorem en_In (vs : Array Value) (w : World) : (callFunc 89 vs).run Tryd.prog w = .ok (.enter 89 vs) w := by go_simp
theorem en_visits (vs : Array Value) (w : World) : (callFunc 76 vs).run Tryd.prog w = .ok (.enter 76 vs) w := by go_simp
theorem en_times (vs : Array Value) (w : World) : (callFunc 120 vs).run Tryd.prog w = .ok (.enter 120 vs) w := by go_simp
end Go.Proofs.YtkjcmppaapbabaaDoor
