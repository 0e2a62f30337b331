/-
  Plain: the program's tests of letters, ranks and crossings together say what the document's test of letters says; the place of a pass on the axis. No walk.
-/
import Derived.Test.YtkjcmppaapbabaaDoorK0
namespace Go.Proofs.YtkjcmppaapbabaaDoor
theorem ct_le_one {p : Nat → Bool} {n : Nat} (h : ∀ i j, i < n → j < n → p i = true → p j = true → i = j) : countTo p n ≤ 1 := by
  rcases Nat.eq_zero_or_pos (countTo p n) with h0 | h0
  · omega
  · obtain ⟨i, hi, hp⟩ := ct_ex h0
    rw [ct_one hi hp (fun m hm hpm => h m i hm hi hpm hp)]
    omega
theorem ct_first {p : Nat → Bool} {n : Nat} (h : 0 < countTo p n) : ∃ i, i < n ∧ p i = true ∧ ∀ j, j < i → p j = false := by
  induction n with
  | zero => simp [countTo] at h
  | succ n ih =>
    by_cases h0 : 0 < countTo p n
    · obtain ⟨i, hi, r⟩ := ih h0
      exact ⟨i, by omega, r⟩
    · cases hp : p n with
      | false => rw [countTo_no hp] at h; omega
      | true =>
        refine ⟨n, by omega, hp, fun j hj => ?_⟩
        cases hq : p j with
        | false => rfl
        | true => have := ct_pos hj hq; omega
theorem sumN_ones (n : Nat) : sumN (fun _ => 1) n = n := by
  induction n with
  | zero => rfl
  | succ n ih => simp only [sumN]; rw [ih]
/-- What crB says. -/
theorem crB_iff {L : List Lt} {i : Nat} : crB L i = true ↔ (isC (la L i) = true → (1 ≤ (la L i).id ∧ (la L i).id ≤ ((cN L L.length / 2 : Nat) : Int)) ∧ ∀ j, j < i → isC (la L j) = true → (la L j).id = (la L i).id → (la L j).over ≠ (la L i).over ∧ (la L j).sign = (la L i).sign) := by
  unfold crB
  cases h : isC (la L i) with
  | false => simp
  | true =>
    simp only [Bool.not_true, Bool.false_or, Bool.and_eq_true, decide_eq_true_eq, allTo_iff, forall_const]
    refine and_congr_right fun _ => forall_congr' fun j => forall_congr' fun _ => ?_
    cases h2 : isC (la L j) <;> simp
    by_cases h3 : (la L j).id = (la L i).id <;> simp [h3]
theorem rkB_iff {L : List Lt} {i : Nat} : rkB L i = true ↔ (isP (la L i) = true → (1 ≤ (la L i).rank ∧ (la L i).rank ≤ (gN L (la L i).gate L.length : Int)) ∧ ∀ j, j < i → isP (la L j) = true → (la L j).gate = (la L i).gate → (la L j).rank ≠ (la L i).rank) := by
  unfold rkB
  cases h : isP (la L i) with
  | false => simp
  | true =>
    simp only [Bool.not_true, Bool.false_or, Bool.and_eq_true, decide_eq_true_eq, allTo_iff, forall_const]
    refine and_congr_right fun _ => forall_congr' fun j => forall_congr' fun _ => ?_
    cases h2 : isP (la L j) <;> simp [keyB]
    by_cases h3 : (la L j).gate = (la L i).gate <;> simp [h3]
theorem ids_sum {L : List Lt} {n : Nat} (h : ∀ i, i < n → isC (la L i) = true → 1 ≤ (la L i).id ∧ (la L i).id ≤ ((cN L L.length / 2 : Nat) : Int)) :
    cN L n = sumN (fun d => tN L ((d + 1 : Nat) : Int) n) (cN L L.length / 2) := by
  unfold cN
  rw [ct_classes (p := fun i => isC (la L i)) (c := fun i => ((la L i).id - 1).toNat) (n := n) (k := cN L L.length / 2) (by
    intro m hm hc
    have := h m hm hc
    omega)]
  refine sumN_congr fun d _ => ct_congr fun m hm => ?_
  cases hc : isC (la L m) with
  | false => rfl
  | true =>
    have := h m hm hc
    simp only [Bool.true_and]
    rw [Bool.eq_iff_iff]
    simp
    omega
theorem cr_overs {L : List Lt} (h : ∀ i, i < L.length → crB L i = true) {i j : Nat} (hi : i < L.length) (hj : j < L.length) (hci : isC (la L i) = true) (hcj : isC (la L j) = true) (hid : (la L i).id = (la L j).id) (hne : i ≠ j) :
    (la L i).over ≠ (la L j).over ∧ (la L i).sign = (la L j).sign := by
  rcases Nat.lt_or_gt_of_ne hne with hlt | hlt
  · exact (crB_iff.1 (h j hj) hcj).2 i hlt hci hid
  · have := (crB_iff.1 (h i hi) hci).2 j hlt hcj hid.symm
    exact ⟨fun e => this.1 e.symm, this.2.symm⟩
theorem tN_split (L : List Lt) (d : Int) (b : Bool) (n : Nat) : tN L d n = countTo (fun m => isC (la L m) && (la L m).id == d && (la L m).over == b) n + countTo (fun m => isC (la L m) && (la L m).id == d && (la L m).over != b) n := by
  unfold tN
  refine ct_sum (fun m _ => ?_) (fun m _ => ?_)
  · cases (la L m).over <;> cases b <;> simp
  · rintro ⟨h1, h2⟩
    simp at h1 h2
    exact h2.2 h1.2
theorem over_le {L : List Lt} (h : ∀ i, i < L.length → crB L i = true) (d : Int) (p : Bool → Bool) (hp : ∀ a b, p a = true → p b = true → a = b) : countTo (fun m => isC (la L m) && (la L m).id == d && p (la L m).over) L.length ≤ 1 := by
  refine ct_le_one fun i j hi hj h1 h2 => ?_
  simp at h1 h2
  rcases Nat.decEq i j with e | e
  · exact absurd (hp _ _ h1.2 h2.2) (cr_overs h hi hj h1.1.1 h2.1.1 (by rw [h1.1.2, h2.1.2]) e).1
  · exact e
theorem tN_le {L : List Lt} (h : ∀ i, i < L.length → crB L i = true) (d : Int) : tN L d L.length ≤ 2 := by
  rw [tN_split L d true]
  have h1 := over_le h d (fun o => o == true) (by simp)
  have h2 := over_le h d (fun o => o != true) (by simp)
  omega
theorem tN_two {L : List Lt} (he : cN L L.length % 2 = 0) (h : ∀ i, i < L.length → crB L i = true) {d : Nat} (hd : d < cN L L.length / 2) : tN L ((d + 1 : Nat) : Int) L.length = 2 := by
  have hs := ids_sum (L := L) (n := L.length) (fun i hi hc => (crB_iff.1 (h i hi) hc).1)
  exact sumN_full (f := fun d => tN L ((d + 1 : Nat) : Int) L.length) (c := 2) (fun i _ => tN_le h _) (by omega) d hd
theorem dN_is {L : List Lt} (h : crossP L = true) : dN L L.length = cN L L.length / 2 := by
  unfold crossP at h
  simp only [Bool.and_eq_true, decide_eq_true_eq, allTo_iff] at h
  obtain ⟨he, h⟩ := h
  unfold dN
  rw [ct_classes (p := nwB L) (c := fun i => ((la L i).id - 1).toNat) (n := L.length) (k := cN L L.length / 2) (by
    intro m hm hc
    unfold nwB at hc
    simp at hc
    have := (crB_iff.1 (h m hm) hc.1).1
    omega)]
  refine Eq.trans (sumN_congr (g := fun _ => 1) fun d hd => ?_) (sumN_ones _)
  have ht := tN_two he h hd
  obtain ⟨i, hi, hp, hno⟩ := ct_first (p := fun i => isC (la L i) && (la L i).id == ((d + 1 : Nat) : Int)) (n := L.length) (by unfold tN at ht; omega)
  simp at hp
  refine ct_one hi ?_ (fun m hm hpm => ?_)
  · simp only [Bool.and_eq_true, beq_iff_eq]
    refine ⟨?_, by omega⟩
    unfold nwB
    simp only [Bool.and_eq_true, allTo_iff]
    refine ⟨hp.1, fun j hj => ?_⟩
    have := hno j hj
    rw [hp.2]
    simp only [Bool.not_eq_true']
    exact this
  · simp only [Bool.and_eq_true, beq_iff_eq] at hpm
    obtain ⟨hnw, hcl⟩ := hpm
    unfold nwB at hnw
    simp only [Bool.and_eq_true, allTo_iff] at hnw
    have hb := (crB_iff.1 (h m hm) hnw.1).1
    have hid : (la L m).id = ((d + 1 : Nat) : Int) := by omega
    rcases Nat.lt_trichotomy m i with hlt | rfl | hgt
    · have := hno m hlt
      simp [hnw.1] at this
      omega
    · rfl
    · have := hnw.2 i hgt
      simp [hp.1] at this
      omega
theorem letters_iff (K : Int) (L : List Lt) : (lettersP K L && ranksP L && crossP L) = lettersR K L := by
  rw [Bool.eq_iff_iff]
  unfold lettersP ranksP crossP lettersR
  simp only [Bool.and_eq_true, decide_eq_true_eq, allTo_iff]
  constructor
  · rintro ⟨⟨hl, hr⟩, he, hc⟩ i hi
    have hli := hl i hi
    unfold lpB at hli
    unfold rlB
    by_cases h1 : (la L i).kind = 1
    · rw [if_pos h1] at hli ⊢
      have hpi : isP (la L i) = true := by unfold isP; simp [h1]
      have hri := rkB_iff.1 (hr i hi) hpi
      simp only [decide_eq_true_eq] at hli ⊢
      refine ⟨hli.2.2.1, hli.2.2.2.1, hli.2.2.2.2, hli.1, hli.2.1, hri.1.1, hri.1.2, ?_⟩
      refine ct_one hi (by simp [smB]) (fun m hm hs => ?_)
      simp [smB] at hs
      have hpm : isP (la L m) = true := by unfold isP; simp [hs.1.1, h1]
      rcases Nat.lt_trichotomy m i with hlt | rfl | hgt
      · exact absurd hs.2 (hri.2 m hlt hpm hs.1.2)
      · rfl
      · exact absurd hs.2.symm ((rkB_iff.1 (hr m hm) hpm).2 i hgt hpi hs.1.2.symm)
    · rw [if_neg h1] at hli ⊢
      by_cases h2 : (la L i).kind = 2
      · rw [if_pos h2] at hli ⊢
        have hci : isC (la L i) = true := by unfold isC; simp [h2]
        have hcr := crB_iff.1 (hc i hi) hci
        simp only [decide_eq_true_eq] at hli ⊢
        have ht : tN L (la L i).id L.length = 2 := by
          have hd : ((la L i).id - 1).toNat < cN L L.length / 2 := by omega
          have := tN_two he hc hd
          rwa [show ((((la L i).id - 1).toNat + 1 : Nat) : Int) = (la L i).id by omega] at this
        refine ⟨hli.1, hli.2.1, hli.2.2, hcr.1.1, hcr.1.2, ?_, ht⟩
        have hs := tN_split L (la L i).id (la L i).over L.length
        have o1 := over_le hc (la L i).id (fun o => o == (la L i).over) (by simp)
        have o2 := over_le hc (la L i).id (fun o => o != (la L i).over) (by intro a b; cases a <;> cases b <;> cases (la L i).over <;> simp)
        have he : prN L (la L i) L.length = countTo (fun m => isC (la L m) && (la L m).id == (la L i).id && (la L m).over != (la L i).over) L.length := by
          refine ct_congr fun m hm => ?_
          unfold prB
          rw [Bool.eq_iff_iff]
          simp only [Bool.and_eq_true, beq_iff_eq, bne_iff_ne, isC]
          constructor
          · rintro ⟨⟨⟨a, b⟩, c⟩, d⟩
            exact ⟨⟨a.trans h2, b⟩, d⟩
          · rintro ⟨⟨a, b⟩, d⟩
            refine ⟨⟨⟨a.trans h2.symm, b⟩, ?_⟩, d⟩
            have hcm : isC (la L m) = true := by unfold isC; simp [a]
            exact (cr_overs hc hm hi hcm hci b (fun e => d (by rw [e]))).2
        omega
      · rw [if_neg h2] at hli; cases hli
  · intro h
    have hl : ∀ i, i < L.length → lpB K (la L i) = true := by
      intro i hi
      have := h i hi
      unfold rlB at this
      unfold lpB
      by_cases h1 : (la L i).kind = 1
      · rw [if_pos h1] at this ⊢
        simp only [decide_eq_true_eq] at this ⊢
        exact ⟨this.2.2.2.1, this.2.2.2.2.1, this.1, this.2.1, this.2.2.1⟩
      · rw [if_neg h1] at this ⊢
        by_cases h2 : (la L i).kind = 2
        · rw [if_pos h2] at this ⊢
          simp only [decide_eq_true_eq] at this ⊢
          exact ⟨this.1, this.2.1, this.2.2.1⟩
        · rw [if_neg h2] at this; cases this
    have hcx : ∀ i, i < L.length → isC (la L i) = true → (1 ≤ (la L i).id ∧ (la L i).id ≤ ((cN L L.length / 2 : Nat) : Int)) ∧ prN L (la L i) L.length = 1 ∧ tN L (la L i).id L.length = 2 := by
      intro i hi hc
      have := h i hi
      unfold isC at hc
      simp at hc
      unfold rlB at this
      rw [if_neg (by omega), if_pos hc] at this
      simp only [decide_eq_true_eq] at this
      exact ⟨⟨this.2.2.2.1, this.2.2.2.2.1⟩, this.2.2.2.2.2.1, this.2.2.2.2.2.2⟩
    refine ⟨⟨hl, fun i hi => rkB_iff.2 fun hp => ?_⟩, ?_, fun i hi => crB_iff.2 fun hci => ⟨(hcx i hi hci).1, fun j hj hcj hid => ?_⟩⟩
    · have hk : (la L i).kind = 1 := by unfold isP at hp; simpa using hp
      have := h i hi
      unfold rlB at this
      rw [if_pos hk] at this
      simp only [decide_eq_true_eq] at this
      refine ⟨⟨this.2.2.2.2.2.1, this.2.2.2.2.2.2.1⟩, fun j hj hpj hg hr => ?_⟩
      have hkj : (la L j).kind = 1 := by unfold isP at hpj; simpa using hpj
      have := ct_uniq (p := fun j => smB (la L i) (la L j)) (Nat.le_of_eq this.2.2.2.2.2.2.2) (i := i) (j := j) hi (by omega) (by simp [smB]) (by simp [smB, hk, hkj, hg, hr])
      omega
    · rw [ids_sum (fun i hi hc => (hcx i hi hc).1)]
      refine sumN_even fun d _ => ?_
      rcases Nat.eq_zero_or_pos (tN L ((d + 1 : Nat) : Int) L.length) with h0 | h0
      · rw [h0]
      · obtain ⟨m, hm, hp⟩ := ct_ex h0
        simp at hp
        have := (hcx m hm hp.1).2.2
        rw [hp.2] at this
        rw [show ((d + 1 : Nat) : Int) = (d : Int) + 1 by omega, this]
    · obtain ⟨_, hpr, ht⟩ := hcx i hi hci
      have hs := tN_split L (la L i).id (la L i).over L.length
      have hsub : ∀ m, m < L.length → prB (la L i) (la L m) = true → (isC (la L m) && (la L m).id == (la L i).id && (la L m).over != (la L i).over) = true := by
        intro m _ hp
        unfold isC at hci
        simp [prB] at hp hci
        simp [isC, hp.1.1.1, hci, hp.1.1.2, hp.2]
      have hle := ct_sub hsub
      have h1 := ct_pos (p := fun m => isC (la L m) && (la L m).id == (la L i).id && (la L m).over == (la L i).over) hi (by simp [hci])
      unfold prN at hpr
      have hov : (la L j).over ≠ (la L i).over := by
        intro e
        have := ct_uniq (p := fun m => isC (la L m) && (la L m).id == (la L i).id && (la L m).over == (la L i).over) (n := L.length) (by omega) (i := i) (j := j) hi (by omega) (by simp [hci]) (by simp [hcj, hid, e])
        omega
      refine ⟨hov, ?_⟩
      have := ct_full hsub (by omega) j (by omega) (by simp [hcj, hid, hov])
      simp [prB] at this
      exact this.1.2
/-- The axis. -/
theorem insX_count (L : List Lt) (i : Nat) (q : Nat → Bool) : ∀ X : List Nat, (insX L i X).countP q = X.countP q + (if q i then 1 else 0)
  | [] => by simp [insX, List.countP_cons]
  | x :: X => by
    unfold insX
    split
    · rw [List.countP_cons, List.countP_cons, insX_count L i q X]; omega
    · rw [List.countP_cons, List.countP_cons]
theorem axTo_count (L : List Lt) (q : Nat → Bool) (m : Nat) : (axTo L m).countP q = countTo (fun j => isP (la L j) && q j) m := by
  induction m with
  | zero => rfl
  | succ m ih =>
    unfold axTo countTo
    cases h : isP (la L m) with
    | true => rw [if_pos rfl, insX_count, ih]; simp
    | false => simp [ih]
theorem insX_len (L : List Lt) (i : Nat) : ∀ X : List Nat, (insX L i X).length = X.length + 1
  | [] => rfl
  | x :: X => by unfold insX; split <;> simp [insX_len L i X]
theorem axTo_len (L : List Lt) (m : Nat) : (axTo L m).length = pN L m := by
  induction m with
  | zero => rfl
  | succ m ih =>
    unfold axTo pN countTo
    cases h : isP (la L m) with
    | true => rw [if_pos rfl, insX_len, ih]; simp [pN]
    | false => simp [ih, pN]
theorem axL_len (L : List Lt) : (axL L).length = pN L L.length := axTo_len L _
theorem mem_insX (L : List Lt) (i x : Nat) : ∀ X : List Nat, x ∈ insX L i X ↔ x = i ∨ x ∈ X
  | [] => by simp [insX]
  | y :: X => by
    unfold insX
    split
    · simp [mem_insX L i x X]; constructor <;> (rintro (h | h | h) <;> simp [h])
    · simp
theorem mem_axTo (L : List Lt) (x m : Nat) : x ∈ axTo L m ↔ x < m ∧ isP (la L x) = true := by
  induction m with
  | zero => simp [axTo]
  | succ m ih =>
    unfold axTo
    cases h : isP (la L m) with
    | true =>
      rw [if_pos rfl, mem_insX, ih]
      constructor
      · rintro (rfl | ⟨h1, h2⟩)
        · exact ⟨by omega, h⟩
        · exact ⟨by omega, h2⟩
      · rintro ⟨h1, h2⟩
        rcases Nat.decEq x m with e | e
        · exact .inr ⟨by omega, h2⟩
        · exact .inl e
    | false =>
      simp only [Bool.false_eq_true, if_false]
      rw [ih]
      constructor
      · rintro ⟨h1, h2⟩; exact ⟨by omega, h2⟩
      · rintro ⟨h1, h2⟩
        refine ⟨?_, h2⟩
        rcases Nat.decEq x m with e | e
        · omega
        · subst e; rw [h] at h2; cases h2
theorem lftB_iff {a b : Lt} : lftB a b = true ↔ a.gate < b.gate ∨ (a.gate = b.gate ∧ a.rank < b.rank) := by unfold lftB; simp
theorem insX_pw {L : List Lt} {i : Nat} : ∀ {X : List Nat}, X.Pairwise (fun a b => lftB (la L a) (la L b) = true) → (∀ x ∈ X, ¬((la L x).gate = (la L i).gate ∧ (la L x).rank = (la L i).rank)) → (insX L i X).Pairwise (fun a b => lftB (la L a) (la L b) = true)
  | [], _, _ => by simp [insX]
  | x :: X, h, hne => by
    rw [List.pairwise_cons] at h
    unfold insX
    split
    · rename_i hx
      rw [List.pairwise_cons]
      refine ⟨fun y hy => ?_, insX_pw h.2 (fun y hy => hne y (by simp [hy]))⟩
      rcases (mem_insX L i y X).1 hy with rfl | hy
      · exact hx
      · exact h.1 y hy
    · rename_i hx
      have hix : lftB (la L i) (la L x) = true := by
        have hne' := hne x (by simp)
        rw [lftB_iff] at hx ⊢
        omega
      rw [List.pairwise_cons, List.pairwise_cons]
      refine ⟨fun y hy => ?_, h⟩
      rcases List.mem_cons.1 hy with rfl | hy
      · exact hix
      · have := h.1 y hy
        rw [lftB_iff] at this hix ⊢
        omega
theorem axTo_pw {L : List Lt} (h : ∀ i, i < L.length → rkB L i = true) : ∀ m, m ≤ L.length → (axTo L m).Pairwise (fun a b => lftB (la L a) (la L b) = true)
  | 0, _ => by simp [axTo]
  | m + 1, hm => by
    have ih := axTo_pw h m (by omega)
    unfold axTo
    cases hp : isP (la L m) with
    | false => simpa using ih
    | true =>
      rw [if_pos rfl]
      refine insX_pw ih fun x hx hk => ?_
      rw [mem_axTo] at hx
      exact (rkB_iff.1 (h m (by omega)) hp).2 x hx.1 hx.2 hk.1 hk.2
theorem pos_count {L : List Lt} {i : Nat} : ∀ {X : List Nat} {p : Nat}, X.Pairwise (fun a b => lftB (la L a) (la L b) = true) → X[p]? = some i → X.countP (fun j => lftB (la L j) (la L i)) = p
  | [], p, _, h => by simp at h
  | x :: X, 0, h, hx => by
    simp at hx; subst hx
    rw [List.pairwise_cons] at h
    rw [List.countP_cons, List.countP_eq_zero.2]
    · have : lftB (la L x) (la L x) = false := by
        cases hq : lftB (la L x) (la L x) with
        | false => rfl
        | true => rw [lftB_iff] at hq; omega
      rw [this]; rfl
    · intro y hy hq
      have := h.1 y hy
      rw [lftB_iff] at this hq
      omega
  | x :: X, p + 1, h, hx => by
    simp at hx
    rw [List.pairwise_cons] at h
    rw [List.countP_cons, pos_count h.2 hx, h.1 i (List.mem_of_getElem? hx)]
    rfl
/-- The place of a pass on the axis. -/
def fsN (L : List Lt) (g : Nat) : Nat := sumN (fun d => gN L (d : Int) L.length) g
def atN (L : List Lt) (i : Nat) : Nat := fsN L (la L i).gate.toNat + ((la L i).rank.toNat - 1)
theorem left_count {L : List Lt} (hg : ∀ i, i < L.length → isP (la L i) = true → 0 ≤ (la L i).gate) (h : ∀ i, i < L.length → rkB L i = true) {i : Nat} (hi : i < L.length) (hp : isP (la L i) = true) :
    countTo (fun j => isP (la L j) && lftB (la L j) (la L i)) L.length = atN L i := by
  rw [ct_sum (p := fun j => isP (la L j) && decide ((la L j).gate < (la L i).gate)) (q := fun j => (isP (la L j) && (la L j).gate == (la L i).gate) && decide ((la L j).rank ≤ (((la L i).rank.toNat - 1 : Nat) : Int)))]
  · unfold atN
    have hr := (rkB_iff.1 (h i hi) hp).1
    congr 1
    · rw [ct_classes (c := fun j => (la L j).gate.toNat) (k := (la L i).gate.toNat) (by
        intro m hm hq
        simp at hq
        have := hg m hm hq.1
        omega)]
      refine sumN_congr fun d hd => ct_congr fun m hm => ?_
      cases hq : isP (la L m) with
      | false => rfl
      | true =>
        have := hg m hm hq
        simp only [Bool.true_and]
        rw [Bool.eq_iff_iff]
        simp
        omega
    · refine ct_low (p := fun j => isP (la L j) && (la L j).gate == (la L i).gate) (f := fun j => (la L j).rank) ?_ ?_ _ ?_
      · intro m hm hq
        simp at hq
        have := (rkB_iff.1 (h m hm) hq.1).1
        rw [hq.2] at this
        exact this
      · intro a b ha hb hqa hqb e
        simp at hqa hqb
        rcases Nat.lt_trichotomy a b with hlt | rfl | hgt
        · exact absurd e ((rkB_iff.1 (h b hb) hqb.1).2 a hlt hqa.1 (by rw [hqa.2, hqb.2]))
        · rfl
        · exact absurd e.symm ((rkB_iff.1 (h a ha) hqa.1).2 b hgt hqb.1 (by rw [hqa.2, hqb.2]))
      · have : (la L i).rank ≤ ((countTo (fun j => isP (la L j) && (la L j).gate == (la L i).gate) L.length : Nat) : Int) := hr.2
        omega
  · intro m hm
    have hr := (rkB_iff.1 (h i hi) hp).1
    cases hq : isP (la L m) with
    | false => rfl
    | true =>
      simp only [Bool.true_and]
      rw [Bool.eq_iff_iff]
      simp [lftB]
      omega
  · rintro m _ ⟨h1, h2⟩
    simp at h1 h2
    omega
theorem ax_at {L : List Lt} (hg : ∀ i, i < L.length → isP (la L i) = true → 0 ≤ (la L i).gate) (h : ∀ i, i < L.length → rkB L i = true) {i : Nat} (hi : i < L.length) (hp : isP (la L i) = true) : (axL L)[atN L i]? = some i := by
  have hm : i ∈ axL L := (mem_axTo L i _).2 ⟨hi, hp⟩
  obtain ⟨p, hlt, he⟩ := List.getElem_of_mem hm
  have hp' : (axL L)[p]? = some i := by rw [List.getElem?_eq_getElem hlt, he]
  have := pos_count (axTo_pw h _ (Nat.le_refl _)) hp'
  rw [axTo_count, left_count hg h hi hp] at this
  rw [this]; exact hp'
theorem ax_nodup {L : List Lt} (h : ∀ i, i < L.length → rkB L i = true) : (axL L).Nodup := by
  refine (axTo_pw h _ (Nat.le_refl _)).imp fun hab e => ?_
  subst e
  rw [lftB_iff] at hab
  omega
theorem idxN_at {X : List Nat} (hn : X.Nodup) {p v : Nat} (h : X[p]? = some v) : idxN X v = p := by
  unfold idxN
  induction X generalizing p with
  | nil => simp at h
  | cons x X ih =>
    rw [List.nodup_cons] at hn
    rw [List.findIdx_cons]
    cases p with
    | zero => simp at h; subst h; simp
    | succ p =>
      simp at h
      have : (x == v) = false := by simpa using (fun e => hn.1 (by rw [e]; exact List.mem_of_getElem? h) : ¬x = v)
      rw [this, ih hn.2 h]
      rfl
end Go.Proofs.YtkjcmppaapbabaaDoor
