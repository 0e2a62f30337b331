/-
  Plain: a code of passes alone is valid if and only if its ranks draw its word without a crossing. No walk.
-/
import Derived.Test.YtkjcmppaapbabaaDoorK22
import Derived.Test.YtkjcmppaapbabaaDoorJA
import Derived.Test.YtkjcmppaapbabaaDoorJG
import Derived.Test.YtkjcmppaapbabaaDoorP11
namespace Go.Proofs.YtkjcmppaapbabaaDoor
/-- The first letters of a code of passes. -/
def plainTo (W R : List Int) : Nat → List Lt
  | 0 => []
  | i + 1 => plainTo W R i ++ [lpass (lat W i) (lat R i)]
theorem plain_len (W R : List Int) : ∀ i, (plainTo W R i).length = i
  | 0 => rfl
  | i + 1 => by unfold plainTo; rw [List.length_append, plain_len W R i]; rfl
theorem plain_la (W R : List Int) {i : Nat} : ∀ {m : Nat}, i < m → la (plainTo W R m) i = lpass (lat W i) (lat R i)
  | 0, h => by omega
  | m + 1, h => by
    unfold plainTo la
    by_cases e : i = m
    · subst e
      rw [List.getElem?_append_right (by rw [plain_len]; exact Nat.le_refl _), plain_len, Nat.sub_self]; rfl
    · rw [List.getElem?_append_left (by rw [plain_len]; omega)]
      have := plain_la W R (i := i) (m := m) (by omega)
      unfold la at this; exact this
section
variable {K : Int} {W R : List Int}
theorem plain_all (W R : List Int) (n : Nat) : AllP (plainTo W R n) := by
  intro i hi
  rw [plain_len] at hi
  rw [plain_la W R hi]; rfl
theorem plain_gN {i : Nat} : gN (plainTo W R W.length) (lat W i) W.length = manyN W i := by
  unfold gN manyN
  refine ct_congr fun m hm => ?_
  rw [plain_la W R hm]
  unfold gateB lpass isP
  rw [Bool.eq_iff_iff]; simp
theorem plain_smN {i : Nat} : smN (plainTo W R W.length) (lpass (lat W i) (lat R i)) W.length = sameN W R i := by
  unfold smN sameN
  refine ct_congr fun m hm => ?_
  rw [plain_la W R hm]
  unfold bothB smB lpass
  rw [Bool.eq_iff_iff]; simp
theorem plain_letters (hv : validB K W = true) : lettersR K (plainTo W R W.length) = true ↔ ∀ i, i < W.length → ranksOkAt W R i := by
  unfold lettersR
  rw [allTo_iff, plain_len]
  have hb : ∀ i, i < W.length → 0 ≤ lat W i ∧ lat W i ≤ K := by
    intro i hi
    unfold validB at hv
    simp only [Bool.and_eq_true, List.all_eq_true, decide_eq_true_eq] at hv
    have hx : W[i]? = some (lat W i) := by unfold lat; rw [List.getElem?_eq_getElem hi]; rfl
    have h1 := hv.2 _ (List.mem_of_getElem? hx)
    have h2 := in40_of_wordB hv.1.2 _ (List.mem_of_getElem? hx)
    exact ⟨h2.1, h1⟩
  refine forall_congr' fun i => forall_congr' fun hi => ?_
  rw [plain_la W R hi]
  unfold rlB ranksOkAt
  rw [if_pos (show (lpass (lat W i) (lat R i)).kind = 1 from rfl), plain_len, plain_smN]
  rw [decide_eq_true_eq]
  show (_ ∧ _ ∧ _ ∧ 0 ≤ lat W i ∧ lat W i ≤ K ∧ 1 ≤ lat R i ∧ lat R i ≤ (gN (plainTo W R W.length) (lat W i) W.length : Int) ∧ _) ↔ _
  rw [plain_gN]
  have := hb i hi
  constructor
  · rintro ⟨_, _, _, _, _, h1, h2, h3⟩; exact ⟨h1, h2, h3⟩
  · rintro ⟨h1, h2, h3⟩; exact ⟨rfl, rfl, rfl, this.1, this.2, h1, h2, h3⟩
theorem Good.lft_at {L : List Lt} (g : Good K L) {i j : Nat} (hi : isP (la L i) = true) (hj : isP (la L j) = true) : lftB (la L i) (la L j) = true ↔ atN L i < atN L j := by
  have one : ∀ {i j : Nat}, isP (la L i) = true → isP (la L j) = true → atN L i < atN L j → lftB (la L i) (la L j) = true := by
    intro i j hi hj h
    have a := g.at_ hi
    have b := g.at_ hj
    obtain ⟨l1, e1⟩ := List.getElem?_eq_some_iff.1 a
    obtain ⟨l2, e2⟩ := List.getElem?_eq_some_iff.1 b
    have := List.pairwise_iff_getElem.1 (axTo_pw g.ranks L.length (Nat.le_refl _)) (atN L i) (atN L j) l1 l2 h
    have e1' : (axTo L L.length)[atN L i] = i := e1
    have e2' : (axTo L L.length)[atN L j] = j := e2
    rwa [e1', e2'] at this
  refine ⟨fun h => ?_, one hi hj⟩
  rcases Nat.lt_trichotomy (atN L i) (atN L j) with q | q | q
  · exact q
  · have e : i = j := by rw [← g.xat_at hi, q, g.xat_at hj]
    rw [e, lftB_iff] at h; omega
  · have h2 := one hj hi q
    rw [lftB_iff] at h h2; omega
theorem plain_bef {n : Nat} (g : Good K (plainTo W R n)) {i j : Nat} (hi : i < n) (hj : j < n) : Bef W R i j ↔ atN (plainTo W R n) i < atN (plainTo W R n) j := by
  have pi := plain_all W R n i (by rw [plain_len]; exact hi)
  have pj := plain_all W R n j (by rw [plain_len]; exact hj)
  rw [← g.lft_at pi pj, lftB_iff, plain_la W R hi, plain_la W R hj]
  rfl
/-- The document's test of arcs. -/
theorem plain_arcs (g : Good K (plainTo W R W.length)) : NoX W.length (atN (plainTo W R W.length)) ↔ ∀ i j, i < W.length → j < W.length → j % 2 = i % 2 → arcsOkAt W R W.length i j := by
  have ha := (plain_all W R W.length).arcs g
  rw [plain_len] at ha
  generalize hκ : atN (plainTo W R W.length) = κ at ha
  have bt : ∀ x a b, x < W.length → a < W.length → b < W.length → (btwB W R x a b = true ↔ (κ a < κ x ∧ κ x < κ b) ∨ (κ b < κ x ∧ κ x < κ a)) := by
    intro x a b hx hA hB
    rw [btw_iff]
    unfold Btw
    rw [plain_bef g hA hx, plain_bef g hx hB, plain_bef g hB hx, plain_bef g hx hA, hκ]
  constructor
  · intro h i j hi hj hp hne
    obtain ⟨i1, i2, _⟩ := nxt_mod ha.even hi
    obtain ⟨j1, j2, _⟩ := nxt_mod ha.even hj
    rw [Bool.eq_iff_iff, bt _ _ _ hj hi i1, bt _ _ _ j1 hi i1]
    have c1 := h i j hi hj hp.symm
    have c2 := h j i hj hi hp
    have ap := ha.apart hi hj hp.symm (fun e => hne e.symm)
    have l1 := (ha.lo_lt hi).1
    have l2 := (ha.lo_lt hj).1
    rcases lo_hi W.length κ i with ⟨p1, p2⟩ | ⟨p1, p2⟩ <;> rcases lo_hi W.length κ j with ⟨q1, q2⟩ | ⟨q1, q2⟩ <;> omega
  · intro h e f he hf hs hc
    obtain ⟨i1, i2, _⟩ := nxt_mod ha.even he
    obtain ⟨j1, j2, _⟩ := nxt_mod ha.even hf
    have hne : f ≠ e := fun q => by rw [q] at hc; omega
    have := h e f he hf hs.symm hne
    rw [Bool.eq_iff_iff, bt _ _ _ hf he i1, bt _ _ _ j1 he i1] at this
    rcases lo_hi W.length κ e with ⟨p1, p2⟩ | ⟨p1, p2⟩ <;> rcases lo_hi W.length κ f with ⟨q1, q2⟩ | ⟨q1, q2⟩ <;> omega
theorem valid_word (hv : validB K W = true) : 0 ≤ K ∧ K ≤ 40 ∧ W.length ≤ 400 ∧ W.length % 2 = 0 := by
  unfold validB at hv
  simp only [Bool.and_eq_true, decide_eq_true_eq] at hv
  have := len_of_wordB hv.1.2
  exact ⟨hv.1.1.1, hv.1.1.2, this.1, this.2⟩
/-- THE THEOREM OF CODES WITHOUT CROSSINGS. -/
theorem plain_check (hv : validB K W = true) (hR : R.length = W.length) : checkE K (plainTo W R W.length) = 0 ↔ DrawnR W R := by
  obtain ⟨k0, k1, n4, n2⟩ := valid_word hv
  have hall := plain_all W R W.length
  have hl := plain_len W R W.length
  unfold checkE
  rw [if_neg (by rw [hall.cN, hl]; omega), if_neg (by omega), hl]
  by_cases h0 : W.length = 0
  · rw [if_pos h0]
    refine ⟨fun _ => ⟨hR, fun i hi => by omega, fun i j hi => by omega⟩, fun _ => rfl⟩
  · rw [if_neg h0]
    have hpos : 0 < (plainTo W R W.length).length := by rw [hl]; omega
    have hev : pN (plainTo W R W.length) (plainTo W R W.length).length % 2 = 0 := by rw [hall.pN _ (Nat.le_refl _), hl]; exact n2
    have hg : lettersR K (plainTo W R W.length) = true → Good K (plainTo W R W.length) := by
      intro h
      rw [← letters_iff] at h
      simp only [Bool.and_eq_true] at h
      exact good_of_parts hpos (hall 0 hpos) hev h.1.1 h.1.2 h.2
    have hval : validB2 K (plainTo W R W.length) = true ↔ DrawnR W R := by
      unfold validB2
      simp only [Bool.and_eq_true, decide_eq_true_eq]
      constructor
      · rintro ⟨⟨_, h2⟩, h3⟩
        have g := hg h2
        have := (plain_flat g hall).1 h3
        rw [hl] at this
        exact ⟨hR, (plain_letters hv).1 h2, (plain_arcs g).1 this⟩
      · rintro ⟨_, h2, h3⟩
        have hlt := (plain_letters (R := R) hv).2 h2
        have g := hg hlt
        refine ⟨⟨⟨hall 0 hpos, hev⟩, hlt⟩, (plain_flat g hall).2 ?_⟩
        rw [hl]
        exact (plain_arcs g).2 h3
    rw [← hval]
    cases validB2 K (plainTo W R W.length) <;> simp
end
end Go.Proofs.YtkjcmppaapbabaaDoor
