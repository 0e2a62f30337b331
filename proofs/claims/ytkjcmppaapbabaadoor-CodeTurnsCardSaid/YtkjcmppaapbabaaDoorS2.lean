/-
  More single operations of this program. No condition.
-/
import Derived.Test.YtkjcmppaapbabaaDoorS1
namespace Go.Proofs.YtkjcmppaapbabaaDoor
open Go.RowKit
section
variable {P : Program} {C : World → Prop} {ρ : Operand → Value} {o : Oper} {w : World} {x y : Operand} {q : Value}
theorem q_un {u : UnOp} {t : TypeId} {X : Value} (ho : o.op = .unOp u t x) (hx : ρ x = X) (hr : (Op.unary u X).run P w = .ok q w) : Oper.quietUpon P C w q ((execOp ρ o).run P w) :=
  q_val (m := Op.unary u X) (by unfold execOp; rw [ho, ← hx]) hr
theorem q_ix {t : TypeId} {X I : Value} (ho : o.op = .indexAddr t x y) (hx : ρ x = X) (hy : ρ y = I) (hr : (Instr.indexAt t X I).run P w = .ok q w) : Oper.quietUpon P C w q ((execOp ρ o).run P w) :=
  q_val (m := Instr.indexAt t X I) (by unfold execOp; rw [ho, ← hx, ← hy]) hr
end
theorem un_not (b : Bool) (w : World) : (Op.unary .not (.bool b)).run Tryd.prog w = .ok (.bool (!b)) w := by go_simp
theorem ix_first {g o n c : Nat} (h : (0 : Int) < (n : Int)) (w : World) : (Instr.indexAt 22 (.slice (some ⟨g, o, none⟩) n c) (.int .i64 0)).run Tryd.prog w = .ok (.pointer (some ⟨g, o, none⟩)) w := by
  go_simp
  intro e
  omega
theorem ld_lets {p : Addr} {A : Option Addr} {n c : Nat} {w : World} (h : w.cell? p = some (.slice A n c)) : (Instr.loadAt 22 (.pointer (some p))).run Tryd.prog w = .ok (.slice A n c) w := by go_simp
section
variable {x y : Operand} {w : World} {X Y : Int} {b : Bool}
theorem bo_neqK (h : (X != Y) = b) : (do eqGuard .neq 44 x y (.int .i64 X) (.int .i64 Y); binOp .neq 44 (.int .i64 X) (.int .i64 Y) : Sem Value).run Tryd.prog w = .ok (.bool b) w := by subst h; go_simp
theorem bo_rem2 (p : Nat) (h : p ≤ 1000000000) : (do eqGuard .rem 3 x y (.int .i64 (p : Int)) (.int .i64 2); binOp .rem 3 (.int .i64 (p : Int)) (.int .i64 2) : Sem Value).run Tryd.prog w = .ok (.int .i64 ((p : Int) % 2)) w := by
  have s3 : IntKind.i64.wrap ((p : Int) % 2) = (p : Int) % 2 := IntWalk.i64_in _ (by omega)
  have s4 : (p : Int).tmod 2 = (p : Int) % 2 := Int.tmod_eq_emod_of_nonneg (by omega)
  go_simp
end
theorem en_letters (vs : Array Value) (w : World) : (callFunc 77 vs).run Tryd.prog w = .ok (.enter 77 vs) w := by go_simp
end Go.Proofs.YtkjcmppaapbabaaDoor
