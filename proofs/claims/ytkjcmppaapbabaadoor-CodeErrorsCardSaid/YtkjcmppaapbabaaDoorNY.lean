/-
  Two codes that are equal, two codes with one normal form, the zero code: what the law's comparisons return. Conditions: the codes read.
-/
import Derived.Test.YtkjcmppaapbabaaDoorJR
namespace Go.Proofs.YtkjcmppaapbabaaDoor
open Go.RowKit
theorem equal_yes (K : Int) (A B : Option Addr) (n c m d : Nat) (L M : List Lt) (w : World) (hA : Lets w A n L) (hB : Lets w B m M) (h : L = M) :
    Calls Tryd.prog 34 #[.agg #[.int .i64 K, .slice A n c], .agg #[.int .i64 K, .slice B m d]] w fun e w' => e = .returned (.bool true) ∧ Below w.heap.size w w' := by
  have := cref_Equal K K A B n c m d L M w hA hB
  rw [show (K == K && decide (L = M)) = true by simp [h]] at this
  exact this
theorem law_equal_yes (K : Int) (A B : Option Addr) (n c m d : Nat) (L M : List Lt) (w : World) (hA : Lets w A n L) (hB : Lets w B m M) (hc : n ≤ c) (hd : m ≤ d) (h1 : checkE K L = 0) (h2 : checkE K M = 0) (h : normL L = normL M) :
    Calls Tryd.prog 61 #[.agg #[.int .i64 K, .slice A n c], .agg #[.int .i64 K, .slice B m d]] w fun e w' => e = .returned (.bool true) ∧ Below w.heap.size w w' := by
  have := law_equal K K A B n c m d L M w hA hB hc hd h1 h2
  rw [show (K == K && decide (normL L = normL M)) = true by simp [h]] at this
  exact this
theorem equal_z (A : Option Addr) (n c : Nat) (w : World) (hA : Lets w A n []) :
    Calls Tryd.prog 34 #[.agg #[.int .i64 0, .slice A n c], .agg #[.int .i64 0, .slice none 0 0]] w fun e w' => e = .returned (.bool true) ∧ Below w.heap.size w w' := equal_yes 0 A none n c 0 0 [] [] w hA (Lets.nil _ _) rfl
end Go.Proofs.YtkjcmppaapbabaaDoor
