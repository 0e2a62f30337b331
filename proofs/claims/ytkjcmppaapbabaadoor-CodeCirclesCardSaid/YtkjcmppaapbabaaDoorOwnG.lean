/-
  Slices of ints of the call's own, found by a walk back over the world; lists of indexes; the block of a code that a function of the document boxes. No condition.
-/
import Derived.Test.YtkjcmppaapbabaaDoorOwn
import Derived.Test.YtkjcmppaapbabaaDoorL3
import Derived.Deep.RegionHeld3
import Derived.Deep.RegionLaw
namespace Go.Proofs.YtkjcmppaapbabaaDoor
open Go.RowKit
theorem Ints.one {w : World} {t : TypeId} {x : Int} (hx : I64 x) : Ints (w.alloc (.cells #[.int .i64 x] t)) (some ⟨w.heap.size, 0, none⟩) 1 [x] :=
  ⟨rfl, by omega, (by intro z hz; simp at hz; subst hz; exact hx), fun _ => ⟨_, rfl, by simp, fun j y hy => by
    match j, hy with
    | 0, hy => simp at hy; subst hy; rw [Addr.add_lit, World.cell?_alloc_at _ _ _ _ rfl]; rfl⟩⟩
theorem Own.one {w : World} {base : Nat} {x : Int} (hx : I64 x) (hb : base ≤ w.heap.size) : Own (w.alloc (.cells #[.int .i64 x] 3)) base (some ⟨w.heap.size, 0, none⟩) 1 1 [x] := by
  refine ⟨⟨rfl, .inr ⟨w.heap.size, 1, _, rfl, hb, heap_alloc_new w _, Nat.le_refl _, by decide, rfl, rfl⟩⟩, rfl, by omega, ?_⟩
  intro z hz
  simp at hz
  subst hz
  exact hx
theorem Own.oneAt {w : World} {base k : Nat} {x : Int} (hx : I64 x) (hb : base ≤ w.heap.size) (hk : w.heap.size = k) : Own (w.alloc (.cells #[.int .i64 x] 3)) base (some ⟨k, 0, none⟩) 1 1 [x] := by
  subst hk
  exact Own.one hx hb
theorem Ints.oneAt {w : World} {t : TypeId} {x : Int} {k : Nat} (hx : I64 x) (hk : w.heap.size = k) : Ints (w.alloc (.cells #[.int .i64 x] t)) (some ⟨k, 0, none⟩) 1 [x] := by
  subst hk
  exact Ints.one hx
theorem Ints.drewD {w : World} {A : Option Addr} {n : Nat} {L : List Int} (h : Ints w A n L) : Ints w.drew A n L := h
theorem Ints.grow1 {w w' : World} {k n : Nat} {L : List Int} {row : Option Nat} (h : Ints w (some ⟨k, 0, none⟩) n L) (hg : w.grownBy w' row) (hne : row ≠ some k) : Ints w' (some ⟨k, 0, none⟩) n L := by
  refine ⟨h.1, h.2.1, h.2.2.1, fun hn => ?_⟩
  obtain ⟨ad, e, hb, hc⟩ := h.2.2.2 hn
  obtain rfl := Option.some.inj e
  refine ⟨_, rfl, Nat.lt_of_lt_of_le hb hg.size, fun j x hx => ?_⟩
  rw [← hc j x hx]
  exact World.cell?_of_block (hg.block _ (by rw [block_of_add]; exact hb) (by rw [block_of_add]; exact fun h => hne h.symm))
theorem Own.oneG {w : World} {base n c : Nat} {x : Int} {o : Obj} {A : Option Addr} {L : List Int} (hx : I64 x) (ho : o = .cells #[.int .i64 x] 3) (hn : n = 1) (hc : c = 1) (hL : L = [x]) (hA : A = some ⟨w.heap.size, 0, none⟩)
    (hb : base ≤ w.heap.size) : Own (w.alloc o) base A n c L := by
  subst ho; subst hA; subst hn; subst hc; subst hL
  exact Own.oneAt hx hb rfl
theorem Ints.oneG {w : World} {n : Nat} {x : Int} {o : Obj} {A : Option Addr} {L : List Int} (hx : I64 x) (ho : o = .cells #[.int .i64 x] 3) (hn : n = 1) (hL : L = [x]) (hA : A = some ⟨w.heap.size, 0, none⟩) : Ints (w.alloc o) A n L := by
  subst ho; subst hA; subst hn; subst hL
  exact Ints.oneAt hx rfl
theorem Ints.growG {w w' : World} {n : Nat} {L : List Int} {row : Option Nat} {A : Option Addr} (hg : w.grownBy w' row) (hne : ∀ a, A = some a → row ≠ some a.block) (h : Ints w A n L) : Ints w' A n L := by
  refine ⟨h.1, h.2.1, h.2.2.1, fun hn => ?_⟩
  obtain ⟨ad, e, hb, hc⟩ := h.2.2.2 hn
  refine ⟨ad, e, Nat.lt_of_lt_of_le hb hg.size, fun j x hx => ?_⟩
  rw [← hc j x hx]
  exact World.cell?_of_block (hg.block _ (by rw [block_of_add]; exact hb) (by rw [block_of_add]; exact fun h => hne ad e h.symm))
/-- A step of a region: the slices are read off the frame first. -/
theorem stepS2 {w : World} {ops : Array Oper} {o : Oper} {a : Act} {K : Act → World → Prop} {Q : Exit → Act → World → Prop} {E : Prop} (hgd : o.guard = none) (s x : Operand)
    (ho : o.op = .call { callee := .builtin .append, args := #[s, x], argTypes := #[35, 35] }) (hty : o.type = 35)
    {base : Nat} {A : Option Addr} {n c : Nat} {L : List Int} {B : Option Addr} {m d : Nat} {M : List Int} (hs : a.eval s = .slice A n c)
    (hx : a.eval x = .slice B m d) (hown : Own w base A n c L) (hB : Ints w B m M) (N : Nat) (hN : n + m = N) (hn : N ≤ 17592186044416) (hbase : base ≤ w.heap.size)
    (h : ∀ A' c' w', Own w' base A' N c' (L ++ M) → Below base w w' → w.grownBy w' (blk A) → (blk A' = blk A ∨ blk A' = some w.heap.size) → K (a.put o.dst (.slice A' N c')) w') :
    if Region.wanted o (yielded ops a.tmps) = true then Oper.wp Tryd.prog o a w K Q else E :=
  stepS hgd s x ho hty hown hB hs hx N hN hn hbase h
/-- A list of indexes as ints. -/
def natI (X : List Nat) : List Int := X.map (fun (x : Nat) => (x : Int))
theorem natI_len (X : List Nat) : (natI X).length = X.length := by simp [natI]
theorem natI_at {X : List Nat} {k : Nat} (h : k < X.length) : (natI X)[k]? = some ((xat X k : Nat) : Int) := by
  unfold natI xat
  rw [List.getElem?_map, List.getElem?_eq_getElem h]
  rfl
theorem natI_append (X Y : List Nat) : natI (X ++ Y) = natI X ++ natI Y := by simp [natI]
/-- The code in a block of its own: the first block that the function makes. -/
def Boxed (w wr : World) (K : Int) (A : Option Addr) (n c : Nat) : Prop := Below (w.heap.size + 1) (w.alloc (.cells #[.int .i64 K, .slice A n c] 24)) wr
section
variable {w wr wx : World} {K : Int} {A : Option Addr} {n c : Nat}
theorem Boxed.refl (w : World) (K : Int) (A : Option Addr) (n c : Nat) : Boxed w (w.alloc (.cells #[.int .i64 K, .slice A n c] 24)) K A n c := Below.refl _ _
theorem Boxed.below (h : Boxed w wr K A n c) : Below w.heap.size w wr := ((Below.refl _ _).alloc (Nat.le_refl _) _).trans (h.mono (by omega))
theorem Boxed.size (h : Boxed w wr K A n c) : w.heap.size + 1 ≤ wr.heap.size := by have := Below.size h; simpa using this
theorem Boxed.more (h : Boxed w wr K A n c) (hb : Below wr.heap.size wr wx) : Boxed w wx K A n c := below_chain h hb h.size
theorem Boxed.moreB {B : Nat} (h : Boxed w wr K A n c) (hb : Below B wr wx) (hB : w.heap.size + 1 ≤ B) : Boxed w wx K A n c := below_chain h hb hB
theorem Boxed.alloc (h : Boxed w wr K A n c) (o : Obj) : Boxed w (wr.alloc o) K A n c := Below.alloc h h.size o
theorem Boxed.drewN (h : Boxed w wr K A n c) (k : Nat) : Boxed w (wr.drewN k) K A n c := below_drewN h k
theorem Boxed.drew (h : Boxed w wr K A n c) : Boxed w wr.drew K A n c := Below.drew h
theorem Boxed.c0 (h : Boxed w wr K A n c) : wr.cell? ⟨w.heap.size, 0, none⟩ = some (.int .i64 K) :=
  (Below.cell h (p := ⟨w.heap.size, 0, none⟩) (by simp)).trans (by rw [World.cell?_alloc_at _ _ _ _ rfl]; rfl)
theorem Boxed.c1 (h : Boxed w wr K A n c) : wr.cell? ⟨w.heap.size, 1, none⟩ = some (.slice A n c) :=
  (Below.cell h (p := ⟨w.heap.size, 1, none⟩) (by simp)).trans (by rw [World.cell?_alloc_at _ _ _ _ rfl]; rfl)
theorem Boxed.frozen (h : Boxed w wr K A n c) (i : Nat) : wr.frozen? ⟨w.heap.size, i, none⟩ = false :=
  (Below.frozen h (p := ⟨w.heap.size, i, none⟩) (by simp)).trans (by unfold World.frozen?; rw [heap_alloc_new]; simp)
/-- The block's cells with it: what a drawn region keeps. -/
def BoxS (w wr : World) (K : Int) (A : Option Addr) (n c : Nat) : Prop := Boxed w wr K A n c ∧ wr.cell? ⟨w.heap.size, 0, none⟩ = some (.int .i64 K) ∧ wr.cell? ⟨w.heap.size, 1, none⟩ = some (.slice A n c)
theorem Boxed.s (h : Boxed w wr K A n c) : Boxed w wr K A n c ∧ wr.cell? ⟨w.heap.size, 0, none⟩ = some (.int .i64 K) ∧ wr.cell? ⟨w.heap.size, 1, none⟩ = some (.slice A n c) := ⟨h, h.c0, h.c1⟩
end
end Go.Proofs.YtkjcmppaapbabaaDoor
