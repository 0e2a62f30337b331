/-
  Plain: the last visits of a crossing over and under; what the program's test of crossings finds. No walk of the program.
-/
import Derived.Test.YtkjcmppaapbabaaDoorK4
namespace Go.Proofs.YtkjcmppaapbabaaDoor
def visB (L : List Lt) (d : Int) (o : Bool) (j : Nat) : Bool := isC (la L j) && (la L j).id == d && (la L j).over == o
def lastV (L : List Lt) (d : Int) (o : Bool) : Nat → Int
  | 0 => -1
  | i + 1 => if visB L d o i then (i : Int) else lastV L d o i
theorem visB_iff {L : List Lt} {d : Int} {o : Bool} {j : Nat} : visB L d o j = true ↔ isC (la L j) = true ∧ (la L j).id = d ∧ (la L j).over = o := by
  unfold visB; simp [and_assoc]
theorem lastV_bd (L : List Lt) (d : Int) (o : Bool) (i : Nat) : -1 ≤ lastV L d o i ∧ lastV L d o i < i := by
  induction i with
  | zero => exact ⟨by simp [lastV], by simp [lastV]⟩
  | succ i ih => unfold lastV; split <;> omega
theorem lastV_no {L : List Lt} {d : Int} {o : Bool} {i : Nat} : lastV L d o i < 0 ↔ ∀ j, j < i → visB L d o j = false := by
  induction i with
  | zero => simp [lastV]
  | succ i ih =>
    unfold lastV
    cases h : visB L d o i with
    | true =>
      rw [if_pos rfl]
      exact ⟨fun hh => by omega, fun hh => by have := hh i (by omega); rw [h] at this; cases this⟩
    | false =>
      simp only [Bool.false_eq_true, if_false]
      rw [ih]
      constructor
      · intro hh j hj
        rcases Nat.decEq j i with e | e
        · exact hh j (by omega)
        · subst e; exact h
      · intro hh j hj; exact hh j (by omega)
theorem lastV_yes {L : List Lt} {d : Int} {o : Bool} {i : Nat} (h : 0 ≤ lastV L d o i) : ∃ j : Nat, lastV L d o i = (j : Int) ∧ j < i ∧ visB L d o j = true := by
  induction i with
  | zero => simp [lastV] at h
  | succ i ih =>
    unfold lastV at h ⊢
    cases hv : visB L d o i with
    | true => rw [if_pos rfl]; exact ⟨i, rfl, by omega, hv⟩
    | false =>
      rw [hv] at h
      simp only [Bool.false_eq_true, if_false] at h ⊢
      obtain ⟨j, h1, h2, h3⟩ := ih h
      exact ⟨j, h1, by omega, h3⟩
theorem lastV_stay {L : List Lt} {d : Int} {o : Bool} {i : Nat} (h : visB L d o i = false) : lastV L d o (i + 1) = lastV L d o i := by
  conv => lhs; unfold lastV
  rw [if_neg (by rw [h]; simp)]
theorem lastV_new {L : List Lt} {d : Int} {o : Bool} {i : Nat} (h : visB L d o i = true) : lastV L d o (i + 1) = i := by
  conv => lhs; unfold lastV
  rw [if_pos h]
/-- The program's test at a visit, when all before were well. -/
def crT (L : List Lt) (i : Nat) : Prop :=
  lastV L (la L i).id (la L i).over i < 0 ∧ (0 ≤ lastV L (la L i).id (!(la L i).over) i → (la L (lastV L (la L i).id (!(la L i).over) i).toNat).sign = (la L i).sign)
theorem crB_crT {L : List Lt} {i : Nat} (hall : ∀ j, j < i → crB L j = true) (hc : isC (la L i) = true) (hb : 1 ≤ (la L i).id ∧ (la L i).id ≤ ((cN L L.length / 2 : Nat) : Int)) : crB L i = true ↔ crT L i := by
  constructor
  · intro h
    have h2 := (crB_iff.1 h hc).2
    refine ⟨lastV_no.2 fun j hj => ?_, fun hp => ?_⟩
    · cases hv : visB L (la L i).id (la L i).over j with
      | false => rfl
      | true =>
        obtain ⟨v1, v2, v3⟩ := visB_iff.1 hv
        exact absurd v3 (h2 j hj v1 v2).1
    · obtain ⟨j, e, hj, hv⟩ := lastV_yes hp
      obtain ⟨v1, v2, v3⟩ := visB_iff.1 hv
      rw [e, Int.toNat_natCast]
      exact (h2 j hj v1 v2).2
  · rintro ⟨t1, t2⟩
    refine crB_iff.2 fun _ => ⟨hb, fun j hj hcj hid => ?_⟩
    have hov : (la L j).over ≠ (la L i).over := fun e => by
      have := lastV_no.1 t1 j hj
      rw [visB_iff.2 ⟨hcj, hid, e⟩] at this
      cases this
    refine ⟨hov, ?_⟩
    have hov' : (la L j).over = !(la L i).over := by revert hov; cases (la L j).over <;> cases (la L i).over <;> simp
    have hvj : visB L (la L i).id (!(la L i).over) j = true := visB_iff.2 ⟨hcj, hid, hov'⟩
    have hpos : 0 ≤ lastV L (la L i).id (!(la L i).over) i := by
      rcases (show _ < (0 : Int) ∨ (0 : Int) ≤ _ from Int.lt_or_le (lastV L (la L i).id (!(la L i).over) i) 0) with h | h
      · have := lastV_no.1 h j hj
        rw [hvj] at this; cases this
      · exact h
    obtain ⟨j', e, hj', hv'⟩ := lastV_yes hpos
    have hs := t2 hpos
    rw [e, Int.toNat_natCast] at hs
    obtain ⟨v1, v2, v3⟩ := visB_iff.1 hv'
    have : j' = j := by
      rcases Nat.lt_trichotomy j' j with hl | he | hl
      · exact absurd (v3.trans hov'.symm) ((crB_iff.1 (hall j hj) hcj).2 j' hl v1 (v2.trans hid.symm)).1
      · exact he
      · exact absurd (hov'.trans v3.symm) ((crB_iff.1 (hall j' hj') v1).2 j hl hcj (hid.trans v2.symm)).1
    rw [← this]; exact hs
/-- Whether a crossing has been visited. -/
theorem met_iff {L : List Lt} {d : Int} {i : Nat} : (0 ≤ lastV L d false i ∨ 0 ≤ lastV L d true i) ↔ 0 < tN L d i := by
  constructor
  · rintro (h | h)
    all_goals
      obtain ⟨j, _, hj, hv⟩ := lastV_yes h
      obtain ⟨v1, v2, _⟩ := visB_iff.1 hv
      exact ct_pos hj (by simp [v1, v2])
  · intro h
    obtain ⟨j, hj, hp⟩ := ct_ex h
    simp at hp
    rcases (show _ < (0 : Int) ∨ (0 : Int) ≤ _ from Int.lt_or_le (lastV L d false i) 0) with h1 | h1
    · rcases (show _ < (0 : Int) ∨ (0 : Int) ≤ _ from Int.lt_or_le (lastV L d true i) 0) with h2 | h2
      · have a := lastV_no.1 h1 j hj
        have b := lastV_no.1 h2 j hj
        unfold visB at a b
        rw [hp.1, hp.2] at a b
        revert a b
        cases (la L j).over <;> simp
      · exact .inr h2
    · exact .inl h1
theorem nw_iff {L : List Lt} {i : Nat} : nwB L i = true ↔ isC (la L i) = true ∧ tN L (la L i).id i = 0 := by
  unfold nwB
  rw [Bool.and_eq_true, allTo_iff]
  refine and_congr_right fun _ => ?_
  constructor
  · intro h
    exact ct_none fun m hm => by have := h m hm; simpa only [Bool.not_eq_true'] using this
  · intro h j hj
    cases hq : (isC (la L j) && (la L j).id == (la L i).id) with
    | false => rfl
    | true => have := ct_pos (p := fun m => isC (la L m) && (la L m).id == (la L i).id) hj hq; unfold tN at h; omega
section
variable {K : Int} {L : List Lt}
/-- The other visit is what the map holds. -/
theorem Good.last (g : Good K L) {i : Nat} (hc : isC (la L i) = true) : lastV L (la L i).id (!(la L i).over) L.length = (othN L i : Nat) := by
  obtain ⟨h1, h2, h3, h4, h5, h6⟩ := g.other hc
  have hlt := isC_lt h2
  have hv : visB L (la L i).id (!(la L i).over) (othN L i) = true := visB_iff.2 ⟨h2, h3, by revert h4; cases (la L (othN L i)).over <;> cases (la L i).over <;> simp⟩
  have hpos : 0 ≤ lastV L (la L i).id (!(la L i).over) L.length := by
    rcases (show _ < (0 : Int) ∨ (0 : Int) ≤ _ from Int.lt_or_le (lastV L (la L i).id (!(la L i).over) L.length) 0) with h | h
    · have := lastV_no.1 h _ hlt
      rw [hv] at this; cases this
    · exact h
  obtain ⟨j, e, hj, hvj⟩ := lastV_yes hpos
  obtain ⟨v1, v2, v3⟩ := visB_iff.1 hvj
  rw [e, h6 j v1 v2 (fun e => by subst e; revert v3; cases (la L j).over <;> simp)]
end
end Go.Proofs.YtkjcmppaapbabaaDoor
