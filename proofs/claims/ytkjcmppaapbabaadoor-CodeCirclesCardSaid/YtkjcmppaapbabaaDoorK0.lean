/-
  Plain: codes as lists of letters; the tests of a code, its axis, its walks. No walk of the program.
-/
import Derived.Test.YtkjcmppaapbabaaDoorU0
namespace Go.Proofs.YtkjcmppaapbabaaDoor
structure Lt where
  kind : Int
  gate : Int
  rank : Int
  id : Int
  sign : Int
  over : Bool
instance : DecidableEq Lt := fun a b =>
  if h : a.kind = b.kind ∧ a.gate = b.gate ∧ a.rank = b.rank ∧ a.id = b.id ∧ a.sign = b.sign ∧ a.over = b.over then
    .isTrue (by cases a; cases b; simp at h; simp [h])
  else .isFalse (fun e => h (by subst e; simp))
def dl : Lt := ⟨0, 0, 0, 0, 0, false⟩
def la (L : List Lt) (i : Nat) : Lt := (L[i]?).getD dl
theorem la_of {L : List Lt} {i : Nat} {x : Lt} (h : L[i]? = some x) : la L i = x := by unfold la; rw [h]; rfl
def isP (l : Lt) : Bool := l.kind == 1
def isC (l : Lt) : Bool := l.kind == 2
theorem isP_isC {l : Lt} (h : isP l = true) : isC l = false := by unfold isP at h; unfold isC; simp at h ⊢; omega
/-- Passes, visits of crossings, passes of a gate, visits of one crossing, among the first m letters. -/
def pN (L : List Lt) (m : Nat) : Nat := countTo (fun i => isP (la L i)) m
def cN (L : List Lt) (m : Nat) : Nat := countTo (fun i => isC (la L i)) m
def gN (L : List Lt) (g : Int) (m : Nat) : Nat := countTo (fun i => isP (la L i) && (la L i).gate == g) m
def tN (L : List Lt) (d : Int) (m : Nat) : Nat := countTo (fun i => isC (la L i) && (la L i).id == d) m
def dwn (L : List Lt) (i : Nat) : Bool := pN L i % 2 == 0
def smB (l o : Lt) : Bool := o.kind == l.kind && o.gate == l.gate && o.rank == l.rank
def smN (L : List Lt) (l : Lt) (m : Nat) : Nat := countTo (fun j => smB l (la L j)) m
def prB (l o : Lt) : Bool := o.kind == l.kind && o.id == l.id && o.sign == l.sign && o.over != l.over
def prN (L : List Lt) (l : Lt) (m : Nat) : Nat := countTo (fun j => prB l (la L j)) m
/-- The document's test of a letter. -/
def rlB (K : Int) (L : List Lt) (l : Lt) : Bool :=
  if l.kind = 1 then decide (l.id = 0 ∧ l.sign = 0 ∧ l.over = false ∧ 0 ≤ l.gate ∧ l.gate ≤ K ∧ 1 ≤ l.rank ∧ l.rank ≤ (gN L l.gate L.length : Int) ∧ smN L l L.length = 1)
  else if l.kind = 2 then decide (l.gate = 0 ∧ l.rank = 0 ∧ (l.sign = 1 ∨ l.sign = -1) ∧ 1 ≤ l.id ∧ l.id ≤ ((cN L L.length / 2 : Nat) : Int) ∧ prN L l L.length = 1 ∧ tN L l.id L.length = 2)
  else false
def lettersR (K : Int) (L : List Lt) : Bool := allTo (fun i => rlB K L (la L i)) L.length
/-- The program's tests. -/
def lpB (K : Int) (l : Lt) : Bool :=
  if l.kind = 1 then decide (0 ≤ l.gate ∧ l.gate ≤ K ∧ l.id = 0 ∧ l.sign = 0 ∧ l.over = false)
  else if l.kind = 2 then decide (l.gate = 0 ∧ l.rank = 0 ∧ (l.sign = 1 ∨ l.sign = -1))
  else false
def lettersP (K : Int) (L : List Lt) : Bool := allTo (fun i => lpB K (la L i)) L.length
def keyB (a b : Lt) : Bool := a.gate == b.gate && a.rank == b.rank
def rkB (L : List Lt) (i : Nat) : Bool :=
  !isP (la L i) || (decide (1 ≤ (la L i).rank ∧ (la L i).rank ≤ (gN L (la L i).gate L.length : Int)) && allTo (fun j => !(isP (la L j) && keyB (la L j) (la L i))) i)
def ranksP (L : List Lt) : Bool := allTo (rkB L) L.length
def crB (L : List Lt) (i : Nat) : Bool :=
  !isC (la L i) || (decide (1 ≤ (la L i).id ∧ (la L i).id ≤ ((cN L L.length / 2 : Nat) : Int)) && allTo (fun j => !(isC (la L j) && (la L j).id == (la L i).id) || ((la L j).over != (la L i).over && (la L j).sign == (la L i).sign)) i)
def crossP (L : List Lt) : Bool := decide (cN L L.length % 2 = 0) && allTo (crB L) L.length
/-- The first visits of crossings. -/
def nwB (L : List Lt) (i : Nat) : Bool := isC (la L i) && allTo (fun j => !(isC (la L j) && (la L j).id == (la L i).id)) i
def dN (L : List Lt) (m : Nat) : Nat := countTo (nwB L) m
/-- The passes from left to right. -/
def lftB (a b : Lt) : Bool := decide (a.gate < b.gate) || (a.gate == b.gate && decide (a.rank < b.rank))
def insX (L : List Lt) (i : Nat) : List Nat → List Nat
  | [] => [i]
  | x :: X => if lftB (la L x) (la L i) then x :: insX L i X else i :: x :: X
def axTo (L : List Lt) : Nat → List Nat
  | 0 => []
  | m + 1 => if isP (la L m) then insX L m (axTo L m) else axTo L m
def axL (L : List Lt) : List Nat := axTo L L.length
/-- The walk that always turns left. -/
def othN (L : List Lt) (i : Nat) : Nat := ((List.range L.length).find? (fun j => j != i && isC (la L j) && (la L j).id == (la L i).id)).getD i
def idxN (X : List Nat) (v : Nat) : Nat := X.findIdx (· == v)
def xat (X : List Nat) (i : Nat) : Nat := (X[i]?).getD 0
def alongN (n i : Nat) (f : Bool) : Nat := if f then 2 * i else 2 * ((i + n - 1) % n) + 1
def headN (n d : Nat) : Nat := if d % 2 = 0 then (d / 2 + 1) % n else d / 2
def leftF (L : List Lt) (X : List Nat) (d : Nat) : Nat :=
  if 2 * L.length ≤ d then
    if d % 2 = 0 then alongN L.length (xat X (((d - 2 * L.length) / 2 + 1) % X.length)) (!dwn L (xat X (((d - 2 * L.length) / 2 + 1) % X.length)))
    else alongN L.length (xat X ((d - 2 * L.length) / 2)) (dwn L (xat X ((d - 2 * L.length) / 2)))
  else if isC (la L (headN L.length d)) then alongN L.length (othN L (headN L.length d)) ((d % 2 == 0) == ((la L (headN L.length d)).over == ((la L (headN L.length d)).sign == 1)))
  else if dwn L (headN L.length d) == (d % 2 == 0) then 2 * L.length + 2 * idxN X (headN L.length d)
  else 2 * L.length + 2 * ((idxN X (headN L.length d) + X.length - 1) % X.length) + 1
def sat (s : List Bool) (x : Nat) : Bool := (s[x]?).getD true
def walk1 (f : Nat → Nat) : Nat → List Bool → Nat → List Nat × List Bool
  | 0, s, _ => ([], s)
  | k + 1, s, x => if sat s x then ([], s) else (x :: (walk1 f k (s.set x true) (f x)).1, (walk1 f k (s.set x true) (f x)).2)
def walksF (f : Nat → Nat) : List Nat → List Bool → List (List Nat)
  | [], _ => []
  | d :: ds, s => if sat s d then walksF f ds s else (walk1 f s.length s d).1 :: walksF f ds (walk1 f s.length s d).2
def dartsN (L : List Lt) : Nat := 2 * L.length + 2 * (axL L).length
def walksL (L : List Lt) : List (List Nat) := walksF (leftF L (axL L)) (List.range (dartsN L)) (List.replicate (dartsN L) false)
def flatB (L : List Lt) : Bool := (walksL L).length == pN L L.length + cN L L.length / 2 + 2
/-- The error of a code: 0 OK, 2 ErrArg, 3 ErrCode, 7 ErrLong. -/
def validB2 (K : Int) (L : List Lt) : Bool := isP (la L 0) && decide (pN L L.length % 2 = 0) && lettersR K L && flatB L
def checkE (K : Int) (L : List Lt) : Int :=
  if 400 < L.length ∨ 200 < cN L L.length then 7 else if K < 0 ∨ 40 < K then 2 else if L.length = 0 then 0 else if validB2 K L then 0 else 3
end Go.Proofs.YtkjcmppaapbabaaDoor
