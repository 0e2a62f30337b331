/-
  Plain: the faces of a code; what the program makes of a piece of the axis, and what the document does. No walk of the program.
-/
import Derived.Test.YtkjcmppaapbabaaDoorK3
namespace Go.Proofs.YtkjcmppaapbabaaDoor
structure Plc where
  gate : Int
  left : Int
instance : DecidableEq Plc := fun a b =>
  if h : a.gate = b.gate ∧ a.left = b.left then .isTrue (by cases a; cases b; simp at h; simp [h])
  else .isFalse (fun e => h (by subst e; simp))
structure Fc where
  above : Bool
  darts : List Int
  places : List Plc
  fingers : List Int
  outer : Bool
instance : DecidableEq Fc := fun a b =>
  if h : a.above = b.above ∧ a.darts = b.darts ∧ a.places = b.places ∧ a.fingers = b.fingers ∧ a.outer = b.outer then .isTrue (by cases a; cases b; simp at h; simp [h])
  else .isFalse (fun e => h (by subst e; simp))
/-- The numbers above g, up to t. -/
def upto (g t : Int) : List Int := (List.range (t - g).toNat).map (fun (i : Nat) => g + 1 + (i : Int))
theorem upto_none {g t : Int} (h : t ≤ g) : upto g t = [] := by unfold upto; rw [show (t - g).toNat = 0 by omega]; rfl
theorem upto_cons {g t : Int} (h : g < t) : upto g t = (g + 1) :: upto (g + 1) t := by
  unfold upto
  rw [show (t - g).toNat = (t - (g + 1)).toNat + 1 by omega, List.range_succ_eq_map, List.map_cons, List.map_map]
  refine List.cons_eq_cons.2 ⟨by simp, List.map_congr_left fun x _ => ?_⟩
  simp only [Function.comp]
  omega
theorem upto_len (g t : Int) : (upto g t).length = (t - g).toNat := by simp [upto]
theorem upto_at {g t : Int} {k : Nat} (h : g + k < t) : (upto g t)[k]? = some (g + 1 + k) := by
  unfold upto
  rw [List.getElem?_map, List.getElem?_range (by omega)]
  rfl
theorem mem_upto {g t x : Int} : x ∈ upto g t ↔ g < x ∧ x ≤ t := by
  unfold upto
  simp only [List.mem_map, List.mem_range]
  constructor
  · rintro ⟨i, hi, rfl⟩; omega
  · intro h; exact ⟨(x - (g + 1)).toNat, by omega, by omega⟩
theorem upto_snoc {g t : Int} (h : g ≤ t) : upto g (t + 1) = upto g t ++ [t + 1] := by
  unfold upto
  rw [show (t + 1 - g).toNat = (t - g).toNat + 1 by omega, List.range_succ, List.map_append]
  refine congrArg _ ?_
  simp
  omega
def flatPl (l : List Int) : List Plc := l.map (fun x => ⟨x, 0⟩)
def spanP (g r t : Int) : List Plc := ⟨g, r⟩ :: flatPl (upto g t)
/-- What the program's 'between' adds. -/
def betwP (g r tg tr : Int) : List Plc := if g < tg then ⟨g, r⟩ :: flatPl (upto g (tg - 1)) ++ [⟨tg, tr⟩] else [⟨tg, tr⟩]
theorem betw_span {g r tg tr : Int} (h : (g < tg ∧ tr = 0) ∨ (g = tg ∧ tr = r)) : betwP g r tg tr = spanP g r tg := by
  unfold betwP spanP
  rcases h with ⟨h1, rfl⟩ | ⟨rfl, rfl⟩
  · rw [if_pos h1]
    have := upto_snoc (g := g) (t := tg - 1) (by omega)
    rw [show tg - 1 + 1 = tg by omega] at this
    rw [this]
    simp [flatPl]
  · rw [if_neg (by omega), upto_none (by omega)]
    rfl
def pieceP (K : Int) (L : List Lt) (X : List Nat) (j : Nat) : List Plc :=
  if j + 1 < X.length then spanP (la L (xat X j)).gate (la L (xat X j)).rank (la L (xat X ((j + 1) % X.length))).gate
  else spanP (la L (xat X j)).gate (la L (xat X j)).rank K ++ spanP 0 0 (la L (xat X ((j + 1) % X.length))).gate
def pieceF (K : Int) (L : List Lt) (X : List Nat) (j : Nat) : List Int :=
  if j + 1 < X.length then upto (la L (xat X j)).gate (la L (xat X ((j + 1) % X.length))).gate
  else upto (la L (xat X j)).gate K ++ upto 0 (la L (xat X ((j + 1) % X.length))).gate
/-- One dart more on a face. -/
def fcAdd (K : Int) (L : List Lt) (X : List Nat) (f : Fc) (x : Nat) : Fc :=
  if x < 2 * L.length then { f with darts := f.darts ++ [(x : Int)] }
  else { f with places := f.places ++ (if x % 2 = 1 then (pieceP K L X ((x - 2 * L.length) / 2)).reverse else pieceP K L X ((x - 2 * L.length) / 2)), fingers := f.fingers ++ (if x % 2 = 1 then (pieceF K L X ((x - 2 * L.length) / 2)).reverse else pieceF K L X ((x - 2 * L.length) / 2)), outer := f.outer || (x - 2 * L.length) / 2 == X.length - 1 }
def fc0 (L : List Lt) (d : Nat) : Fc := ⟨dwn L (d / 2 + 1), [], [], [], false⟩
def faceOf (K : Int) (L : List Lt) (X : List Nat) (w : List Nat) : Fc := w.foldl (fcAdd K L X) (fc0 L (xat w 0))
def facesL (K : Int) (L : List Lt) : List Fc := (walksL L).map (faceOf K L (axL L))
section
variable {K : Int} {L : List Lt}
theorem fsN_step (L : List Lt) {a b : Nat} (h : a < b) : fsN L a + gN L (a : Int) L.length ≤ fsN L b := by
  obtain ⟨k, rfl⟩ : ∃ k, b = a + 1 + k := ⟨b - a - 1, by omega⟩
  unfold fsN
  induction k with
  | zero => exact Nat.le_refl _
  | succ k ih => exact Nat.le_trans (ih (by omega)) (Nat.le_add_right _ _)
theorem Good.rank (g : Good K L) {i : Nat} (hp : isP (la L i) = true) : 1 ≤ (la L i).rank ∧ (la L i).rank ≤ (gN L (la L i).gate L.length : Int) := (rkB_iff.1 (g.ranks i (isP_lt hp)) hp).1
/-- Neighbors on the axis. -/
theorem Good.next (g : Good K L) {j : Nat} (hj : j + 1 < (axL L).length) :
    ((la L (xat (axL L) j)).gate < (la L (xat (axL L) (j + 1))).gate ∧ (la L (xat (axL L) (j + 1))).rank - 1 = 0) ∨ ((la L (xat (axL L) j)).gate = (la L (xat (axL L) (j + 1))).gate ∧ (la L (xat (axL L) (j + 1))).rank - 1 = (la L (xat (axL L) j)).rank) := by
  have e1 := g.at_xat (j := j) (by omega)
  have e2 := g.at_xat (j := j + 1) hj
  have h1 := ax_pass (L := L) (j := j) (by omega)
  have h2 := ax_pass (L := L) (j := j + 1) hj
  have r1 := g.rank h1.1
  have r2 := g.rank h2.1
  have g1 := g.gates _ h1.2 h1.1
  have g2 := g.gates _ h2.2 h2.1
  unfold atN at e1 e2
  rcases Int.lt_trichotomy (la L (xat (axL L) j)).gate (la L (xat (axL L) (j + 1))).gate with h | h | h
  · left
    have := fsN_step L (a := (la L (xat (axL L) j)).gate.toNat) (b := (la L (xat (axL L) (j + 1))).gate.toNat) (by omega)
    rw [show (((la L (xat (axL L) j)).gate.toNat : Nat) : Int) = (la L (xat (axL L) j)).gate by omega] at this
    omega
  · right
    rw [h] at e1
    omega
  · have := fsN_step L (a := (la L (xat (axL L) (j + 1))).gate.toNat) (b := (la L (xat (axL L) j)).gate.toNat) (by omega)
    rw [show (((la L (xat (axL L) (j + 1))).gate.toNat : Nat) : Int) = (la L (xat (axL L) (j + 1))).gate by omega] at this
    omega
theorem Good.head_rank (g : Good K L) : (la L (xat (axL L) 0)).rank = 1 := by
  have e1 := g.at_xat (j := 0) g.m_pos
  have h1 := ax_pass (L := L) (j := 0) g.m_pos
  have r1 := g.rank h1.1
  unfold atN at e1
  omega
theorem pieceP_in {j : Nat} (h : j + 1 < (axL L).length) : pieceP K L (axL L) j = spanP (la L (xat (axL L) j)).gate (la L (xat (axL L) j)).rank (la L (xat (axL L) (j + 1))).gate := by
  unfold pieceP; rw [if_pos h, Nat.mod_eq_of_lt h]
/-- The letters of one part of a face of n letters. -/
theorem pieceP_len (hK : K ≤ 40) (g : Good K L) {j : Nat} (hj : j < (axL L).length) : (pieceP K L (axL L) j).length ≤ 100 ∧ (pieceF K L (axL L) j).length ≤ 100 := by
  have h1 := ax_pass (L := L) (j := j) hj
  have h2 := ax_pass (L := L) (j := (j + 1) % (axL L).length) (Nat.mod_lt _ g.m_pos)
  have g1 := g.gates _ h1.2 h1.1
  have g2 := g.gates _ h2.2 h2.1
  unfold pieceP pieceF spanP flatPl
  split <;> simp [upto_len] <;> omega
end
end Go.Proofs.YtkjcmppaapbabaaDoor
