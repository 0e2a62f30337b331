/-
  Plain: what a valid code's tests give: the axis, the other visit of a crossing; the step to the left is one to one. No walk of the program.
-/
import Derived.Test.YtkjcmppaapbabaaDoorK2
namespace Go.Proofs.YtkjcmppaapbabaaDoor
/-- What the walks need of a code: the letters are well formed, the first one is a pass. -/
structure Good (K : Int) (L : List Lt) : Prop where
  pos : 0 < L.length
  first : isP (la L 0) = true
  even : pN L L.length % 2 = 0
  gates : ∀ i, i < L.length → isP (la L i) = true → 0 ≤ (la L i).gate ∧ (la L i).gate ≤ K
  ranks : ∀ i, i < L.length → rkB L i = true
  cross : ∀ i, i < L.length → crB L i = true
  ceven : cN L L.length % 2 = 0
  kinds : ∀ i, i < L.length → isP (la L i) = true ∨ isC (la L i) = true
theorem good_of_parts {K : Int} {L : List Lt} (hp : 0 < L.length) (h1 : isP (la L 0) = true) (h2 : pN L L.length % 2 = 0) (h3 : lettersP K L = true) (h4 : ranksP L = true) (h5 : crossP L = true) : Good K L := by
  unfold lettersP at h3
  unfold ranksP at h4
  unfold crossP at h5
  simp only [Bool.and_eq_true, decide_eq_true_eq, allTo_iff] at h3 h4 h5
  refine ⟨hp, h1, h2, fun i hi hp => ?_, h4, h5.2, h5.1, fun i hi => ?_⟩
  · have := h3 i hi
    unfold lpB at this
    unfold isP at hp
    rw [if_pos (by simpa using hp)] at this
    simp only [decide_eq_true_eq] at this
    exact ⟨this.1, this.2.1⟩
  · have := h3 i hi
    unfold lpB at this
    unfold isP isC
    by_cases e1 : (la L i).kind = 1
    · left; simp [e1]
    · by_cases e2 : (la L i).kind = 2
      · right; simp [e2]
      · rw [if_neg e1, if_neg e2] at this; cases this
theorem good_of_valid {K : Int} {L : List Lt} (hp : 0 < L.length) (h : validB2 K L = true) : Good K L := by
  unfold validB2 at h
  rw [← letters_iff] at h
  simp only [Bool.and_eq_true, decide_eq_true_eq] at h
  exact good_of_parts hp h.1.1.1 h.1.1.2 h.1.2.1.1 h.1.2.1.2 h.1.2.2
section
variable {K : Int} {L : List Lt}
theorem la_ge {i : Nat} (h : L.length ≤ i) : la L i = dl := by unfold la; rw [List.getElem?_eq_none h]; rfl
theorem isP_lt {i : Nat} (h : isP (la L i) = true) : i < L.length := by
  rcases Nat.lt_or_ge i L.length with hl | hl
  · exact hl
  · rw [la_ge hl] at h; cases h
theorem isC_lt {i : Nat} (h : isC (la L i) = true) : i < L.length := by
  rcases Nat.lt_or_ge i L.length with hl | hl
  · exact hl
  · rw [la_ge hl] at h; cases h
theorem Good.nodup (g : Good K L) : (axL L).Nodup := ax_nodup g.ranks
theorem Good.at_ (g : Good K L) {i : Nat} (hp : isP (la L i) = true) : (axL L)[atN L i]? = some i := ax_at (fun i hi hp => (g.gates i hi hp).1) g.ranks (isP_lt hp) hp
theorem Good.idx (g : Good K L) {i : Nat} (hp : isP (la L i) = true) : idxN (axL L) i = atN L i := idxN_at g.nodup (g.at_ hp)
theorem Good.at_lt (g : Good K L) {i : Nat} (hp : isP (la L i) = true) : atN L i < (axL L).length := (List.getElem?_eq_some_iff.1 (g.at_ hp)).1
theorem ax_pass {j : Nat} (hj : j < (axL L).length) : isP (la L (xat (axL L) j)) = true ∧ xat (axL L) j < L.length := by
  have h : (axL L)[j]? = some (axL L)[j] := List.getElem?_eq_getElem hj
  have hm := (mem_axTo L (axL L)[j] L.length).1 (List.getElem_mem hj)
  unfold xat
  rw [h]
  exact ⟨hm.2, hm.1⟩
theorem Good.at_xat (g : Good K L) {j : Nat} (hj : j < (axL L).length) : atN L (xat (axL L) j) = j := by
  have h := (ax_pass hj).1
  have h1 := g.at_ h
  have h2 : (axL L)[j]? = some (xat (axL L) j) := by unfold xat; rw [List.getElem?_eq_getElem hj]; rfl
  have e1 := idxN_at g.nodup h1
  rw [idxN_at g.nodup h2] at e1
  exact e1.symm
theorem Good.m_pos (g : Good K L) : 0 < (axL L).length := by
  have := g.at_lt g.first
  omega
/-- The other visit. -/
theorem Good.other (g : Good K L) {i : Nat} (hc : isC (la L i) = true) :
    othN L i ≠ i ∧ isC (la L (othN L i)) = true ∧ (la L (othN L i)).id = (la L i).id ∧ (la L (othN L i)).over ≠ (la L i).over ∧ (la L (othN L i)).sign = (la L i).sign ∧ (∀ j, isC (la L j) = true → (la L j).id = (la L i).id → j ≠ i → j = othN L i) := by
  have hi := isC_lt hc
  have hb := (crB_iff.1 (g.cross i hi) hc).1
  have ht := tN_two (d := ((la L i).id - 1).toNat) g.ceven g.cross (by omega)
  rw [show ((((la L i).id - 1).toNat + 1 : Nat) : Int) = (la L i).id by omega] at ht
  have hex : ∃ j, j < L.length ∧ j ≠ i ∧ isC (la L j) = true ∧ (la L j).id = (la L i).id := by
    rcases Classical.em (∃ j, j < L.length ∧ j ≠ i ∧ isC (la L j) = true ∧ (la L j).id = (la L i).id) with h | h
    · exact h
    · have : tN L (la L i).id L.length = 1 := ct_one hi (by simp [hc]) (fun m hm hp => by
        simp at hp
        rcases Nat.decEq m i with e | e
        · exact absurd ⟨m, hm, e, hp.1, hp.2⟩ h
        · exact e)
      omega
  have hall : ∀ j k, isC (la L j) = true → (la L j).id = (la L i).id → j ≠ i → isC (la L k) = true → (la L k).id = (la L i).id → k ≠ i → j = k := by
    intro j k hj hji hjn hk hki hkn
    rcases Nat.decEq j k with e | e
    · have a1 := (cr_overs g.cross (isC_lt hj) (isC_lt hk) hj hk (hji.trans hki.symm) e).1
      have a2 := (cr_overs g.cross (isC_lt hj) hi hj hc hji hjn).1
      have a3 := (cr_overs g.cross (isC_lt hk) hi hk hc hki hkn).1
      revert a1 a2 a3
      cases (la L j).over <;> cases (la L k).over <;> cases (la L i).over <;> simp
    · exact e
  have hf : othN L i ≠ i ∧ isC (la L (othN L i)) = true ∧ (la L (othN L i)).id = (la L i).id := by
    unfold othN
    cases hq : (List.range L.length).find? (fun j => j != i && isC (la L j) && (la L j).id == (la L i).id) with
    | none =>
      rw [List.find?_eq_none] at hq
      obtain ⟨j, hj, h1, h2, h3⟩ := hex
      exact absurd (by simp [h1, h2, h3]) (hq j (List.mem_range.2 hj))
    | some j =>
      have := List.find?_some hq
      simp at this
      exact ⟨this.1.1, this.1.2, this.2⟩
  have ho := cr_overs g.cross (isC_lt hf.2.1) hi hf.2.1 hc hf.2.2 hf.1
  exact ⟨hf.1, hf.2.1, hf.2.2, ho.1, ho.2, fun j hj hji hjn => hall j _ hj hji hjn hf.2.1 hf.2.2 hf.1⟩
theorem Good.oth_oth (g : Good K L) {i : Nat} (hc : isC (la L i) = true) : othN L (othN L i) = i := by
  obtain ⟨h1, h2, h3, _, _, _⟩ := g.other hc
  obtain ⟨_, _, _, _, _, h6⟩ := g.other h2
  exact (h6 i hc h3.symm (fun e => h1 e.symm)).symm
/-- The ends of steps. -/
theorem alongN_lt {n i : Nat} {b : Bool} (hi : i < n) : alongN n i b < 2 * n := by
  unfold alongN
  split
  · omega
  · have := Nat.mod_lt (i + n - 1) (show 0 < n by omega)
    omega
theorem alongN_inj {n i j : Nat} {b c : Bool} (hi : i < n) (hj : j < n) (h : alongN n i b = alongN n j c) : i = j ∧ b = c := by
  unfold alongN at h
  have e : ∀ x, x < n → (x = 0 ∧ (x + n - 1) % n = n - 1) ∨ (0 < x ∧ (x + n - 1) % n = x - 1) := by
    intro x hx
    rcases Nat.eq_zero_or_pos x with h0 | h0
    · left; subst h0; exact ⟨rfl, by rw [Nat.zero_add, Nat.mod_eq_of_lt (by omega)]⟩
    · right
      refine ⟨h0, ?_⟩
      rw [show x + n - 1 = (x - 1) + n by omega, Nat.add_mod_right, Nat.mod_eq_of_lt (by omega)]
  have e1 := e i hi
  have e2 := e j hj
  cases b <;> cases c <;> simp at h ⊢ <;> omega
theorem headN_lt {n d : Nat} (h : d < 2 * n) : headN n d < n := by
  unfold headN
  split
  · exact Nat.mod_lt _ (by omega)
  · omega
theorem headN_inj {n d e : Nat} (hd : d < 2 * n) (he : e < 2 * n) (hp : d % 2 = e % 2) (h : headN n d = headN n e) : d = e := by
  unfold headN at h
  by_cases h0 : d % 2 = 0
  · rw [if_pos h0, if_pos (by omega)] at h
    have m : ∀ x, x < n → (x + 1 = n ∧ (x + 1) % n = 0) ∨ (x + 1 < n ∧ (x + 1) % n = x + 1) := by
      intro x hx
      rcases Nat.lt_or_ge (x + 1) n with hl | hl
      · exact .inr ⟨hl, Nat.mod_eq_of_lt hl⟩
      · left; have : x + 1 = n := by omega
        exact ⟨this, by rw [this, Nat.mod_self]⟩
    have m1 := m (d / 2) (by omega)
    have m2 := m (e / 2) (by omega)
    omega
  · rw [if_neg h0, if_neg (by omega)] at h
    omega
theorem succ_mod_inj {m i j : Nat} (hi : i < m) (hj : j < m) (h : (i + 1) % m = (j + 1) % m) : i = j := by
  have := headN_inj (n := m) (d := 2 * i) (e := 2 * j) (by omega) (by omega) (by omega) (by
    unfold headN
    rw [if_pos (by omega), if_pos (by omega), show 2 * i / 2 = i by omega, show 2 * j / 2 = j by omega]; exact h)
  omega
/-- The step's three kinds. -/
theorem left_axis {d : Nat} (hd : 2 * L.length ≤ d) (hm : 0 < (axL L).length) (hN : d < dartsN L) :
    ∃ v b, leftF L (axL L) d = alongN L.length v b ∧ isP (la L v) = true ∧ v < L.length ∧ ((d % 2 = 0 ∧ v = xat (axL L) (((d - 2 * L.length) / 2 + 1) % (axL L).length) ∧ b = !dwn L v) ∨ (d % 2 = 1 ∧ v = xat (axL L) ((d - 2 * L.length) / 2) ∧ b = dwn L v)) := by
  unfold leftF
  unfold dartsN at hN
  rw [if_pos hd]
  by_cases h0 : d % 2 = 0
  · rw [if_pos h0]
    have hj := ax_pass (L := L) (j := ((d - 2 * L.length) / 2 + 1) % (axL L).length) (Nat.mod_lt _ hm)
    exact ⟨_, _, rfl, hj.1, hj.2, .inl ⟨h0, rfl, rfl⟩⟩
  · rw [if_neg h0]
    have hj := ax_pass (L := L) (j := (d - 2 * L.length) / 2) (by omega)
    exact ⟨_, _, rfl, hj.1, hj.2, .inr ⟨by omega, rfl, rfl⟩⟩
theorem Good.left_cross (_g : Good K L) {d : Nat} (hd : d < 2 * L.length) (hc : isC (la L (headN L.length d)) = true) :
    leftF L (axL L) d = alongN L.length (othN L (headN L.length d)) ((d % 2 == 0) == ((la L (headN L.length d)).over == ((la L (headN L.length d)).sign == 1))) := by
  unfold leftF
  rw [if_neg (by omega), if_pos hc]
theorem Good.left_pass (g : Good K L) {d : Nat} (hd : d < 2 * L.length) (hp : isP (la L (headN L.length d)) = true) :
    leftF L (axL L) d = if dwn L (headN L.length d) == (d % 2 == 0) then 2 * L.length + 2 * atN L (headN L.length d) else 2 * L.length + 2 * ((atN L (headN L.length d) + (axL L).length - 1) % (axL L).length) + 1 := by
  unfold leftF
  rw [if_neg (by omega), if_neg (by rw [isP_isC hp]; simp), g.idx hp]
theorem Good.into (g : Good K L) {d : Nat} (hd : d < dartsN L) : leftF L (axL L) d < dartsN L := by
  rcases Nat.lt_or_ge d (2 * L.length) with hl | hl
  · rcases g.kinds _ (headN_lt hl) with hp | hc
    · have ha := g.at_lt hp
      rw [g.left_pass hl hp]
      unfold dartsN
      split
      · omega
      · have := Nat.mod_lt (atN L (headN L.length d) + (axL L).length - 1) g.m_pos
        omega
    · rw [g.left_cross hl hc]
      have := alongN_lt (b := (d % 2 == 0) == ((la L (headN L.length d)).over == ((la L (headN L.length d)).sign == 1))) (isC_lt (g.other hc).2.1)
      unfold dartsN
      omega
  · obtain ⟨v, b, h1, _, h3, _⟩ := left_axis hl g.m_pos hd
    rw [h1]
    have := alongN_lt (b := b) h3
    unfold dartsN
    omega
theorem Good.axis (g : Good K L) {d : Nat} (hl : 2 * L.length ≤ d) (hd : d < dartsN L) : leftF L (axL L) d < 2 * L.length := by
  obtain ⟨v, b, h1, _, h3, _⟩ := left_axis hl g.m_pos hd
  rw [h1]
  exact alongN_lt h3
theorem Good.xat_inj (g : Good K L) {i j : Nat} (hi : i < (axL L).length) (hj : j < (axL L).length) (h : xat (axL L) i = xat (axL L) j) : i = j := by
  have := g.at_xat hi
  rw [h, g.at_xat hj] at this
  exact this.symm
theorem Good.inj (g : Good K L) (x y : Nat) (hx : x < dartsN L) (hy : y < dartsN L) (h : leftF L (axL L) x = leftF L (axL L) y) : x = y := by
  have hm := g.m_pos
  rcases Nat.lt_or_ge x (2 * L.length) with hlx | hlx <;> rcases Nat.lt_or_ge y (2 * L.length) with hly | hly
  · have p1 : ∀ z, z < 2 * L.length → isP (la L (headN L.length z)) = true → 2 * L.length ≤ leftF L (axL L) z := by
      intro z hz hp
      rw [g.left_pass hz hp]
      split <;> omega
    have p2 : ∀ z, z < 2 * L.length → isC (la L (headN L.length z)) = true → leftF L (axL L) z < 2 * L.length := by
      intro z hz hc
      rw [g.left_cross hz hc]
      exact alongN_lt (isC_lt (g.other hc).2.1)
    rcases g.kinds _ (headN_lt hlx) with hpx | hcx <;> rcases g.kinds _ (headN_lt hly) with hpy | hcy
    · rw [g.left_pass hlx hpx, g.left_pass hly hpy] at h
      have hax := g.at_lt hpx
      have hay := g.at_lt hpy
      have cl : ∀ a b, a < (axL L).length → b < (axL L).length → (a + (axL L).length - 1) % (axL L).length = (b + (axL L).length - 1) % (axL L).length → a = b := by
        intro a b ha hb e
        have := alongN_inj (b := false) (c := false) ha hb (by unfold alongN; simp [e])
        exact this.1
      have key : headN L.length x = headN L.length y ∧ (dwn L (headN L.length x) == (x % 2 == 0)) = (dwn L (headN L.length y) == (y % 2 == 0)) := by
        cases hbx : (dwn L (headN L.length x) == (x % 2 == 0)) <;> cases hby : (dwn L (headN L.length y) == (y % 2 == 0)) <;> rw [hbx, hby] at h <;> simp at h
        · have h' : atN L (headN L.length x) = atN L (headN L.length y) := cl _ _ hax hay (by omega)
          have e1 := g.at_ hpx
          rw [h', g.at_ hpy] at e1
          exact ⟨(Option.some.inj e1).symm, rfl⟩
        · omega
        · omega
        · have h' : atN L (headN L.length x) = atN L (headN L.length y) := by omega
          have e1 := g.at_ hpx
          rw [h', g.at_ hpy] at e1
          exact ⟨(Option.some.inj e1).symm, rfl⟩
      refine headN_inj hlx hly ?_ key.1
      have k2 := key.2
      rw [key.1] at k2
      rcases Nat.mod_two_eq_zero_or_one x with a | a <;> rcases Nat.mod_two_eq_zero_or_one y with b | b <;> rw [a, b] at k2 <;> cases hq : dwn L (headN L.length y) <;> rw [hq] at k2 <;> simp at k2 <;> omega
    · have := p1 x hlx hpx; have := p2 y hly hcy; omega
    · have := p2 x hlx hcx; have := p1 y hly hpy; omega
    · rw [g.left_cross hlx hcx, g.left_cross hly hcy] at h
      obtain ⟨h1, h2⟩ := alongN_inj (isC_lt (g.other hcx).2.1) (isC_lt (g.other hcy).2.1) h
      have hh : headN L.length x = headN L.length y := by
        have := g.oth_oth hcx
        rw [h1, g.oth_oth hcy] at this
        exact this.symm
      refine headN_inj hlx hly ?_ hh
      rw [hh] at h2
      rcases Nat.mod_two_eq_zero_or_one x with a | a <;> rcases Nat.mod_two_eq_zero_or_one y with b | b <;> rw [a, b] at h2 <;> revert h2 <;> generalize ((la L (headN L.length y)).over == ((la L (headN L.length y)).sign == 1)) = q <;> cases q <;> simp <;> omega
  · obtain ⟨v, b, h1, h2, h3, _⟩ := left_axis hly hm hy
    rcases g.kinds _ (headN_lt hlx) with hpx | hcx
    · rw [h1, g.left_pass hlx hpx] at h
      have := alongN_lt (b := b) h3
      split at h <;> omega
    · rw [h1, g.left_cross hlx hcx] at h
      have hc' := (g.other hcx).2.1
      have := (alongN_inj (isC_lt hc') h3 h).1
      rw [this, isP_isC h2] at hc'
      cases hc'
  · obtain ⟨v, b, h1, h2, h3, _⟩ := left_axis hlx hm hx
    rcases g.kinds _ (headN_lt hly) with hpy | hcy
    · rw [h1, g.left_pass hly hpy] at h
      have := alongN_lt (b := b) h3
      split at h <;> omega
    · rw [h1, g.left_cross hly hcy] at h
      have hc' := (g.other hcy).2.1
      have := (alongN_inj h3 (isC_lt hc') h).1
      rw [← this, isP_isC h2] at hc'
      cases hc'
  · obtain ⟨v, b, h1, h2, h3, h4⟩ := left_axis hlx hm hx
    obtain ⟨v', b', h1', h2', h3', h4'⟩ := left_axis hly hm hy
    rw [h1, h1'] at h
    obtain ⟨rfl, rfl⟩ := alongN_inj h3 h3' h
    unfold dartsN at hx hy
    rcases h4 with ⟨a1, a2, a3⟩ | ⟨a1, a2, a3⟩ <;> rcases h4' with ⟨c1, c2, c3⟩ | ⟨c1, c2, c3⟩
    · have := g.xat_inj (Nat.mod_lt _ hm) (Nat.mod_lt _ hm) (a2.symm.trans c2)
      have := succ_mod_inj (by omega) (by omega) this
      omega
    · rw [a3] at c3; cases dwn L v <;> simp at c3
    · rw [a3] at c3; cases dwn L v <;> simp at c3
    · have := g.xat_inj (by omega) (by omega) (a2.symm.trans c2)
      omega
/-- The program's walks and the document's. -/
theorem Good.walks (g : Good K L) : walksL L = facesF (leftF L (axL L)) (2 * L.length) (List.range (2 * L.length)) (List.replicate (2 * L.length) false) :=
  walks_eq_faces g.inj (fun _ h => g.into h) (fun _ h1 h2 => g.axis h1 h2) (by unfold dartsN; omega)
end
end Go.Proofs.YtkjcmppaapbabaaDoor
