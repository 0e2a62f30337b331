/-
  Plain: a code without crossings is flat if and only if its arcs do not cross. No walk.
-/
import Derived.Test.YtkjcmppaapbabaaDoorK21
import Derived.Test.YtkjcmppaapbabaaDoorJH
namespace Go.Proofs.YtkjcmppaapbabaaDoor
section
variable {K : Int} {L : List Lt}
def AllP (L : List Lt) : Prop := ∀ i, i < L.length → isP (la L i) = true
theorem AllP.pN (h : AllP L) : ∀ i, i ≤ L.length → pN L i = i
  | 0, _ => rfl
  | i + 1, hi => by
    have := AllP.pN h i (by omega)
    unfold Go.Proofs.YtkjcmppaapbabaaDoor.pN at this ⊢
    rw [countTo_yes (h i (by omega)), this]
theorem AllP.dwn (h : AllP L) {i : Nat} (hi : i ≤ L.length) : dwn L i = (i % 2 == 0) := by
  unfold Go.Proofs.YtkjcmppaapbabaaDoor.dwn; rw [h.pN i hi]
theorem AllP.cN (h : AllP L) : cN L L.length = 0 := by
  unfold Go.Proofs.YtkjcmppaapbabaaDoor.cN
  have key : ∀ i, i ≤ L.length → countTo (fun i => isC (la L i)) i = 0 := by
    intro i
    induction i with
    | zero => intro _; rfl
    | succ i ih => intro hi; rw [countTo_no (isP_isC (h i (by omega))), ih (by omega)]
  exact key _ (Nat.le_refl _)
theorem AllP.axl (h : AllP L) : (axL L).length = L.length := by rw [axL_len, h.pN _ (Nat.le_refl _)]
theorem AllP.even (h : AllP L) (g : Good K L) : L.length % 2 = 0 := by have := g.even; rwa [h.pN _ (Nat.le_refl _)] at this
theorem AllP.arcs (h : AllP L) (g : Good K L) : Arcs L.length (atN L) where
  pos := g.pos
  even := h.even g
  lt := fun i hi => by have := g.at_lt (h i hi); rwa [h.axl] at this
  inj := fun i j hi hj e => by rw [← g.xat_at (h i hi), e, g.xat_at (h j hj)]
/-- What lies to the left of a dart: the innermost arc. -/
def gapH (L : List Lt) (x : Nat) : Nat := if x % 2 = 0 then innA L.length (atN L) 1 ((x - 2 * L.length) / 2) else innA L.length (atN L) 0 ((x - 2 * L.length) / 2)
def darH (L : List Lt) (x : Nat) : Nat := if x < 2 * L.length then gapH L (leftF L (axL L) x) else gapH L x
theorem gapH_r (L : List Lt) (j : Nat) : gapH L (2 * L.length + 2 * j) = innA L.length (atN L) 1 j := by
  unfold gapH; rw [if_pos (by omega)]; congr 1; omega
theorem gapH_l (L : List Lt) (j : Nat) : gapH L (2 * L.length + 2 * j + 1) = innA L.length (atN L) 0 j := by
  unfold gapH; rw [if_neg (by omega)]; congr 1; omega
/-- The edge of a side at a pass. -/
theorem edge_at {n v : Nat} (he : n % 2 = 0) (hv : v < n) (f : Bool) : ∃ e, e < n ∧ ((f = true ∧ e = v ∧ nxN n v f = (e + 1) % n) ∨ (f = false ∧ v = (e + 1) % n ∧ nxN n v f = e)) ∧ e % 2 = (if f then v % 2 else (v + 1) % 2) := by
  cases f with
  | true => exact ⟨v, hv, .inl ⟨rfl, rfl, rfl⟩, rfl⟩
  | false =>
    refine ⟨(v + n - 1) % n, Nat.mod_lt _ (by omega), .inr ⟨rfl, ?_, rfl⟩, ?_⟩
    · rcases mod_dn hv with ⟨h0, e⟩ | ⟨h0, e⟩
      · rw [e, h0, show n - 1 + 1 = n by omega, Nat.mod_self]
      · rw [e, show v - 1 + 1 = v by omega, Nat.mod_eq_of_lt hv]
    · rcases mod_dn hv with ⟨h0, e⟩ | ⟨h0, e⟩
      · rw [e, if_neg (by simp)]; omega
      · rw [e, if_neg (by simp)]; omega
theorem mod_back {m j : Nat} (hj : j < m) : ((j + 1) % m + m - 1) % m = j := by
  rcases mod_up hj with ⟨h, e⟩ | ⟨h, e⟩
  · rw [e, Nat.zero_add, Nat.mod_eq_of_lt (by omega)]; omega
  · rw [e, show j + 1 + m - 1 = j + m by omega, Nat.add_mod_right, Nat.mod_eq_of_lt hj]
theorem mod_forth {m j : Nat} (hj : j < m) : ((j + m - 1) % m + 1) % m = j := by
  rcases mod_dn hj with ⟨h, e⟩ | ⟨h, e⟩
  · rw [e, h, show m - 1 + 1 = m by omega, Nat.mod_self]
  · rw [e, show j - 1 + 1 = j by omega, Nat.mod_eq_of_lt hj]
theorem darH_step (g : Good K L) (h : AllP L) (hx : NoX L.length (atN L)) {x : Nat} (hN : x < dartsN L) : darH L (leftF L (axL L) x) = darH L x := by
  have hm := g.m_pos
  have ha := h.arcs g
  have hax := h.axl
  rcases Nat.lt_or_ge x (2 * L.length) with hl | hl
  · have hge : 2 * L.length ≤ leftF L (axL L) x := by
      rw [arr_eq hl, g.l_pass (h _ (headN_lt hl))]
      split <;> omega
    unfold darH
    rw [if_pos hl, if_neg (by omega)]
  · have hlt := g.axis hl hN
    have e1 : darH L (leftF L (axL L) x) = gapH L (leftF L (axL L) (leftF L (axL L) x)) := by
      unfold darH; rw [if_pos hlt]
    have e2 : darH L x = gapH L x := by unfold darH; rw [if_neg (by omega)]
    rw [e1, e2]
    obtain ⟨j, hj, e⟩ : ∃ j, j < (axL L).length ∧ (x = 2 * L.length + 2 * j ∨ x = 2 * L.length + 2 * j + 1) := by
      unfold dartsN at hN
      refine ⟨(x - 2 * L.length) / 2, by omega, by omega⟩
    have key : ∀ v, v < L.length → ∀ f, leftF L (axL L) (alongN L.length v f) = if dwn L (nxN L.length v f) == f then 2 * L.length + 2 * atN L (nxN L.length v f) else 2 * L.length + 2 * ((atN L (nxN L.length v f) + (axL L).length - 1) % (axL L).length) + 1 := by
      intro v hv f
      rw [along_arr hv, g.l_pass (h _ (nx_lt hv))]
    rcases e with rfl | rfl
    · have hp := ax_pass (L := L) (j := (j + 1) % (axL L).length) (Nat.mod_lt _ hm)
      have hat := g.at_xat (j := (j + 1) % (axL L).length) (Nat.mod_lt _ hm)
      rw [l_right]
      generalize xat (axL L) ((j + 1) % (axL L).length) = v at hp hat
      rw [key v hp.2, gapH_r]
      obtain ⟨e, he, hc, hs⟩ := edge_at ha.even hp.2 (!dwn L v)
      have hdv := h.dwn (Nat.le_of_lt hp.2)
      have hnx := nxt_mod ha.even he
      have hj2 : (atN L v + L.length - 1) % L.length = j := by rw [hat, hax]; exact mod_back (by omega)
      have hfl := ha.flip hx he
      rcases hc with ⟨f1, f2, f3⟩ | ⟨f1, f2, f3⟩
      · rw [f1] at hs
        have o : v % 2 = 1 := by
          cases q : dwn L v with
          | true => rw [q] at f1; cases f1
          | false => rw [q] at hdv; have := hdv.symm; simp at this; omega
        rw [f1] at f3
        rw [f1, f3, h.dwn (Nat.le_of_lt hnx.1), if_pos (by simp; omega), gapH_r]
        have e1 : e % 2 = 1 := by omega
        rw [e1, f2, hj2] at hfl
        rw [f2]
        exact hfl.1.symm
      · rw [f1] at hs
        have o : v % 2 = 0 := by
          cases q : dwn L v with
          | true => rw [q] at hdv; have := hdv.symm; simpa using this
          | false => rw [q] at f1; cases f1
        rw [f1] at f3
        have e1 : e % 2 = 1 := by rw [if_neg (by simp)] at hs; omega
        rw [f1, f3, h.dwn (Nat.le_of_lt he), if_pos (by simp; omega), gapH_r]
        rw [e1, ← f2, hj2] at hfl
        exact hfl.2.symm
    · have hp := ax_pass (L := L) hj
      have hat := g.at_xat hj
      rw [l_left]
      generalize xat (axL L) j = v at hp hat
      rw [key v hp.2, gapH_l]
      obtain ⟨e, he, hc, hs⟩ := edge_at ha.even hp.2 (dwn L v)
      have hdv := h.dwn (Nat.le_of_lt hp.2)
      have hnx := nxt_mod ha.even he
      have hfl := ha.flip hx he
      rcases hc with ⟨f1, f2, f3⟩ | ⟨f1, f2, f3⟩
      · rw [f1] at hs
        have o : v % 2 = 0 := by rw [f1] at hdv; have := hdv.symm; simpa using this
        rw [f1] at f3
        have e1 : e % 2 = 0 := by rw [if_pos rfl] at hs; omega
        rw [f1, f3, h.dwn (Nat.le_of_lt hnx.1), if_neg (by simp; omega), gapH_l, hax]
        rw [e1, f2, hat] at hfl
        rw [f2]
        exact hfl.2
      · rw [f1] at hs
        have o : v % 2 = 1 := by rw [f1] at hdv; have := hdv.symm; simp at this; omega
        rw [f1] at f3
        have e1 : e % 2 = 0 := by rw [if_neg (by simp)] at hs; omega
        rw [f1, f3, h.dwn (Nat.le_of_lt he), if_neg (by simp; omega), gapH_l, hax]
        rw [e1, ← f2, hat] at hfl
        exact hfl.1
/-- At least as many walks as arcs and two. -/
theorem plain_ge (g : Good K L) (h : AllP L) (hx : NoX L.length (atN L)) : L.length + 2 ≤ (walksL L).length := by
  have ha := h.arcs g
  have hax := h.axl
  have hpos := ha.pos
  obtain ⟨lab, l1, _, _, _⟩ := walks_lab g.inj (fun x hx => g.into hx) (Ws := walksL L) rfl
  have hc : ∀ x y, x < dartsN L → y < dartsN L → lab x = lab y → darH L x = darH L y := by
    intro x y hx' hy e
    obtain ⟨W, w1, w2⟩ := l1 x hx'
    obtain ⟨V, v1, v2⟩ := l1 y hy
    rw [e, v1] at w1
    have q := Option.some.inj w1
    subst q
    exact walks_const (f := leftF L (axL L)) (N := dartsN L) (h := darH L) (fun x hx => g.into hx) (fun x hq => darH_step g h hx hq) (List.range (dartsN L)) _ (by simp) V (List.mem_of_getElem? v1) x w2 y v2
  have hD : ∀ i, i < L.length + 2 → ∃ x, x < dartsN L ∧ darH L x = i := by
    intro i hi
    unfold dartsN
    rcases Nat.lt_or_ge i L.length with hlt | hge
    · have hl := ha.lo_lt hlt
      have ho := ha.inn_open hlt
      rcases Nat.mod_two_eq_zero_or_one i with h0 | h1
      · refine ⟨2 * L.length + 2 * loA L.length (atN L) i + 1, by omega, ?_⟩
        unfold darH; rw [if_neg (by omega), gapH_l]
        rwa [h0] at ho
      · refine ⟨2 * L.length + 2 * loA L.length (atN L) i, by omega, ?_⟩
        unfold darH; rw [if_neg (by omega), gapH_r]
        rwa [h1] at ho
    · rcases Nat.decEq i L.length with q | q
      · refine ⟨2 * L.length + 2 * (L.length - 1), by omega, ?_⟩
        unfold darH; rw [if_neg (by omega), gapH_r, ha.inn_last]; omega
      · refine ⟨2 * L.length + 2 * (L.length - 1) + 1, by omega, ?_⟩
        unfold darH; rw [if_neg (by omega), gapH_l, ha.inn_last]; omega
  have hD' : ∃ D : Nat → Nat, ∀ i, i < L.length + 2 → D i < dartsN L ∧ darH L (D i) = i :=
    ⟨fun i => if hi : i < L.length + 2 then Classical.choose (hD i hi) else 0, fun i hi => by simp only [hi, ↓reduceDIte]; exact Classical.choose_spec (hD i hi)⟩
  obtain ⟨D, hDD⟩ := hD'
  refine pigeon (a := L.length + 2) (b := (walksL L).length) (f := fun i => lab (D i)) (fun i hi => ?_) (fun i j hi hj e => ?_)
  · obtain ⟨W, w1, _⟩ := l1 (D i) (hDD i hi).1
    exact (List.getElem?_eq_some_iff.1 w1).1
  · have := hc _ _ (hDD i hi).1 (hDD j hj).1 e
    rwa [(hDD i hi).2, (hDD j hj).2] at this
/-- With all edges tied there are two colors. -/
theorem Good.two_col (g : Good K L) {X : Nat → Nat} (hX : Col L X) (hf : ∀ e, e < L.length → X (2 * e) = X (2 * e + 1)) : ∀ d, d < dartsN L → X d = X (2 * upE L (xat (axL L) 0)) ∨ X d = X (2 * loE L (xat (axL L) 0)) := by
  have he := g.edges hX hf
  have hm := g.m_pos
  intro d hd
  unfold dartsN at hd
  have hs : ∀ t, t < L.length → X (2 * t) = X (2 * upE L (xat (axL L) 0)) ∨ X (2 * t) = X (2 * loE L (xat (axL L) 0)) := fun t ht => by
    rw [he t ht]; split
    · exact .inl rfl
    · exact .inr rfl
  rcases Nat.lt_or_ge d (2 * L.length) with hl | hl
  · rcases Nat.mod_two_eq_zero_or_one d with h2 | h2
    · have := hs (d / 2) (by omega)
      rwa [show 2 * (d / 2) = d by omega] at this
    · have := hs (d / 2) (by omega)
      rw [hf _ (by omega)] at this
      rwa [show 2 * (d / 2) + 1 = d by omega] at this
  · rcases Nat.mod_two_eq_zero_or_one d with h2 | h2
    · have := g.p3 hX hf (j := (d - 2 * L.length) / 2) (by omega)
      rw [show 2 * L.length + 2 * ((d - 2 * L.length) / 2) = d by omega] at this
      rw [this]
      exact .inl (g.up_const hX hf _ (Nat.mod_lt _ hm))
    · have := g.p4 hX hf (j := (d - 2 * L.length) / 2) (by omega)
      rw [show 2 * L.length + 2 * ((d - 2 * L.length) / 2) + 1 = d by omega] at this
      rw [this]
      exact .inr (g.lo_const hX hf _ (by omega))
theorem ct_le_two {p : Nat → Bool} {n a b : Nat} (h : ∀ i, i < n → p i = true → i = a ∨ i = b) : countTo p n ≤ 2 := by
  have key : ∀ m, m ≤ n → countTo p m ≤ (if a < m then 1 else 0) + (if b < m then 1 else 0) := by
    intro m
    induction m with
    | zero => intro _; simp [countTo]
    | succ m ih =>
      intro hm
      have := ih (by omega)
      cases hp : p m with
      | true =>
        rw [countTo_yes hp]
        rcases h m (by omega) hp with e | e
        · subst e
          rw [if_neg (by omega)] at this
          rw [if_pos (by omega)]
          by_cases q : b < m
          · rw [if_pos q] at this; rw [if_pos (by omega)]; omega
          · rw [if_neg q] at this; omega
        · subst e
          rw [if_neg (Nat.lt_irrefl _)] at this
          rw [if_pos (show m < m + 1 by omega)]
          by_cases q : a < m
          · rw [if_pos q] at this; rw [if_pos (by omega)]; omega
          · rw [if_neg q] at this; omega
      | false =>
        rw [countTo_no hp]
        refine Nat.le_trans this (Nat.add_le_add ?_ ?_)
        · by_cases q : a < m
          · rw [if_pos q, if_pos (by omega)]; omega
          · rw [if_neg q]; omega
        · by_cases q : b < m
          · rw [if_pos q, if_pos (by omega)]; omega
          · rw [if_neg q]; omega
  have := key n (Nat.le_refl _)
  have a1 : (if a < n then 1 else 0) ≤ 1 := by split <;> omega
  have a2 : (if b < n then 1 else 0) ≤ 1 := by split <;> omega
  omega
/-- The colors that are left when all edges but some are tied: if those follow, there are two at most. -/
theorem Good.few (g : Good K L) (kept : Nat → Bool) (h : ∀ X, Col L X → (∀ e, e < L.length → kept e = true → X (2 * e) = X (2 * e + 1)) → ∀ e, e < L.length → X (2 * e) = X (2 * e + 1)) : (walksL L).length ≤ countTo kept L.length + 2 := by
  obtain ⟨lab, l1, l2, l3, l4⟩ := walks_lab g.inj (fun x hx => g.into hx) (Ws := walksL L) rfl
  obtain ⟨c, c1, c2, c3⟩ := ties (walksL L).length (fun e => lab (2 * e)) (fun e => lab (2 * e + 1)) kept L.length
  have hX : Col L (fun d => c (lab d)) := ⟨fun d hd => by show c _ = c _; rw [l3 d hd]⟩
  have hf := h _ hX (fun e he hk => c2 e he hk)
  have tw := g.two_col hX hf
  have := ct_le_two (p := fun k => c k == k) (n := (walksL L).length) (a := c (lab (2 * upE L (xat (axL L) 0)))) (b := c (lab (2 * loE L (xat (axL L) 0)))) (fun i hi hp => by
    simp only [beq_iff_eq] at hp
    obtain ⟨x, hx, rfl⟩ := l4 i hi
    have := tw x hx
    rw [hp] at this
    exact this)
  omega
theorem ct_true (n : Nat) : countTo (fun _ => true) n = n := by
  induction n with
  | zero => rfl
  | succ n ih => rw [countTo_yes (p := fun _ => true) rfl, ih]
theorem plain_le (g : Good K L) : (walksL L).length ≤ L.length + 2 := by
  have := g.few (fun _ => true) (fun X _ hk e he => hk e he rfl)
  rwa [ct_true] at this
/-- The gaps' colors at the ends of an edge. -/
theorem gap_cols (g : Good K L) (h : AllP L) {X : Nat → Nat} (hX : Col L X) {e : Nat} (he : e < L.length) :
    (e % 2 = 1 ∧ X (2 * L.length + 2 * atN L e) = X (2 * e + 1) ∧ X (2 * L.length + 2 * ((atN L e + L.length - 1) % L.length)) = X (2 * e) ∧ X (2 * L.length + 2 * atN L ((e + 1) % L.length)) = X (2 * e) ∧ X (2 * L.length + 2 * ((atN L ((e + 1) % L.length) + L.length - 1) % L.length)) = X (2 * e + 1)) ∨
    (e % 2 = 0 ∧ X (2 * L.length + 2 * atN L e + 1) = X (2 * e) ∧ X (2 * L.length + 2 * ((atN L e + L.length - 1) % L.length) + 1) = X (2 * e + 1) ∧ X (2 * L.length + 2 * atN L ((e + 1) % L.length) + 1) = X (2 * e + 1) ∧ X (2 * L.length + 2 * ((atN L ((e + 1) % L.length) + L.length - 1) % L.length) + 1) = X (2 * e)) := by
  have ha := h.arcs g
  have hax := h.axl
  obtain ⟨u, hu⟩ : ∃ u, (e + 1) % L.length = u := ⟨_, rfl⟩
  have hnx := nxt_mod ha.even he
  rw [hu] at hnx ⊢
  have hpu : prevN L.length u = e := by
    unfold prevN; rw [← hu]; exact mod_back he
  have pe := h e he
  have pu := h u hnx.1
  have le := ha.lt e he
  have lu := ha.lt u hnx.1
  have hde := h.dwn (Nat.le_of_lt he)
  have hdu := h.dwn (Nat.le_of_lt hnx.1)
  have a1 : arrN L.length e false = 2 * e + 1 := rfl
  have a2 : arrN L.length u true = 2 * e := by unfold arrN; rw [if_pos rfl]; unfold prevN at hpu; rw [hpu]
  have s1 := hX.step (2 * e + 1) (by unfold dartsN; omega)
  have s2 := hX.step (2 * e) (by unfold dartsN; omega)
  rw [← a1, g.l_pass pe, a1] at s1
  rw [← a2, g.l_pass pu, a2] at s2
  have r : ∀ v, v < L.length → X (2 * L.length + 2 * ((atN L v + L.length - 1) % L.length)) = X (alongN L.length v (!dwn L v)) := by
    intro v hv
    have := hX.step (2 * L.length + 2 * ((atN L v + L.length - 1) % L.length)) (by
      have := Nat.mod_lt (atN L v + L.length - 1) ha.pos
      unfold dartsN; omega)
    rw [l_right, hax, mod_forth (ha.lt v hv), g.xat_at (h v hv)] at this
    exact this.symm
  have l : ∀ v, v < L.length → X (2 * L.length + 2 * atN L v + 1) = X (alongN L.length v (dwn L v)) := by
    intro v hv
    have := hX.step (2 * L.length + 2 * atN L v + 1) (by
      have := ha.lt v hv
      unfold dartsN; omega)
    rw [l_left, g.xat_at (h v hv)] at this
    exact this.symm
  have re := r e he
  have ru := r u hnx.1
  have le' := l e he
  have lu' := l u hnx.1
  rcases Nat.mod_two_eq_zero_or_one e with h0 | h1
  · right
    have d1 : dwn L e = true := by rw [hde]; simpa using h0
    have d2 : dwn L u = false := by rw [hdu]; simp; omega
    rw [d1, hax] at s1
    rw [d2, hax] at s2
    rw [d1, along_t] at le'
    rw [d2, along_f, hpu] at lu'
    rw [if_neg (by simp)] at s1 s2
    exact ⟨h0, le', s1, lu', s2⟩
  · left
    have d1 : dwn L e = false := by rw [hde]; simp; omega
    have d2 : dwn L u = true := by rw [hdu]; simp; omega
    rw [d1] at s1
    rw [d2] at s2
    rw [d1] at re
    rw [d2] at ru
    rw [Bool.not_false, along_t] at re
    rw [Bool.not_true, along_f, hpu] at ru
    rw [if_pos (by simp)] at s1 s2
    exact ⟨h1, s1, re, s2, ru⟩
/-- Crossing arcs: one edge's tie follows from the others. -/
theorem cross_ties {n : Nat} {κ : Nat → Nat} (ha : Arcs n κ) {G A B : Nat → Nat} {s e0 e1 : Nat} (h0 : e0 < n) (h1 : e1 < n) (hs0 : e0 % 2 = s) (hs1 : e1 % 2 = s)
    (hG : ∀ e, e < n → e % 2 = s → G (κ e) = A e ∧ G ((κ e + n - 1) % n) = B e ∧ G (κ ((e + 1) % n)) = B e ∧ G ((κ ((e + 1) % n) + n - 1) % n) = A e)
    (ht : ∀ e, e < n → e % 2 = s → e ≠ e0 → A e = B e) (hon : ∀ q, q < n → ∃ v, v < n ∧ κ v = q)
    (hc : loA n κ e0 < loA n κ e1 ∧ loA n κ e1 < hiA n κ e0 ∧ hiA n κ e0 < hiA n κ e1) : A e0 = B e0 := by
  have hs2 : s < 2 := by omega
  have hl0 := ha.lo_lt h0
  have hl1 := ha.lo_lt h1
  obtain ⟨t1, t2⟩ := two_segs (G := G) hl0.1 hl0.2 (by
    intro q hq n0 n1
    obtain ⟨v, hv, rfl⟩ := hon q hq
    obtain ⟨e, he, hce, hse⟩ := edge_at ha.even hv (v % 2 == s)
    have hes : e % 2 = s := by
      rw [hse]
      by_cases q : v % 2 = s
      · simp [q]
      · simp [q]; omega
    have hne : e ≠ e0 := by
      intro q
      subst q
      rcases hce with ⟨_, c2, _⟩ | ⟨_, c2, _⟩
      · rcases lo_hi n κ e with ⟨p1, p2⟩ | ⟨p1, p2⟩
        · exact n0 (by rw [p1, c2])
        · exact n1 (by rw [p2, c2])
      · rcases lo_hi n κ e with ⟨p1, p2⟩ | ⟨p1, p2⟩
        · exact n1 (by rw [p2, c2])
        · exact n0 (by rw [p1, c2])
    have tt := ht e he hes hne
    obtain ⟨g1, g2, g3, g4⟩ := hG e he hes
    rcases hce with ⟨_, c2, _⟩ | ⟨_, c2, _⟩
    · subst c2; rw [g1, g2, tt]
    · rw [c2, g3, g4, tt])
  have x0 := hG e0 h0 hs0
  have x1 := hG e1 h1 hs1
  have tt := ht e1 h1 hs1 (by intro q; rw [q] at hc; omega)
  have y1 := t1 (loA n κ e1) (by omega) (by omega)
  have y2 := t2 (hiA n κ e1) hl1.2 (by omega)
  have z1 := t2 (hiA n κ e0) hl0.2 (by omega)
  have z0 := t1 (loA n κ e0) (Nat.le_refl _) hl0.1
  have key : G (loA n κ e0) = G (hiA n κ e0) := by
    rw [← y1, ← y2]
    rcases lo_hi n κ e1 with ⟨p1, p2⟩ | ⟨p1, p2⟩
    · rw [p1, p2, x1.1, x1.2.2.1, tt]
    · rw [p1, p2, x1.1, x1.2.2.1, tt]
  rcases lo_hi n κ e0 with ⟨p1, p2⟩ | ⟨p1, p2⟩
  · rw [p1, p2, x0.1, x0.2.2.1] at key; exact key
  · rw [p1, p2, x0.1, x0.2.2.1] at key; exact key.symm
theorem ct_but_one {n e0 : Nat} (h : e0 < n) : countTo (fun e => e != e0) n + 1 = n := by
  have key : ∀ m, countTo (fun e => e != e0) m + (if e0 < m then 1 else 0) = m := by
    intro m
    induction m with
    | zero => simp [countTo]
    | succ m ih =>
      rcases Nat.lt_trichotomy m e0 with q | q | q
      · rw [countTo_yes (by simpa using by omega), if_neg (by omega)]
        rw [if_neg (by omega)] at ih; omega
      · subst q
        rw [countTo_no (by simp), if_pos (by omega)]
        rw [if_neg (by omega)] at ih; omega
      · rw [countTo_yes (by simpa using by omega), if_pos (by omega)]
        rw [if_pos q] at ih; omega
  have := key n
  rwa [if_pos h] at this
theorem plain_nox (g : Good K L) (h : AllP L) (hf : flatB L = true) : NoX L.length (atN L) := by
  have ha := h.arcs g
  intro e0 e1 h0 h1 hs hc
  have hW : (walksL L).length = L.length + 2 := by
    unfold flatB at hf
    simp only [beq_iff_eq] at hf
    rw [hf, h.cN, h.pN _ (Nat.le_refl _)]
  have := g.few (fun e => e != e0) (fun X hX hk => by
    have hon : ∀ q, q < L.length → ∃ v, v < L.length ∧ atN L v = q := fun q hq => ⟨xat (axL L) q, (ax_pass (by rw [h.axl]; exact hq)).2, g.at_xat (by rw [h.axl]; exact hq)⟩
    have tied : X (2 * e0) = X (2 * e0 + 1) := by
      rcases Nat.mod_two_eq_zero_or_one e0 with p | p
      · exact cross_ties ha (G := fun q => X (2 * L.length + 2 * q + 1)) (A := fun e => X (2 * e)) (B := fun e => X (2 * e + 1)) (s := 0) h0 h1 p (by omega) (fun e he hes => by
          rcases gap_cols g h hX he with ⟨o, _⟩ | ⟨_, r1, r2, r3, r4⟩
          · omega
          · exact ⟨r1, r2, r3, r4⟩) (fun e he _ hne => hk e he (by simpa using hne)) hon hc
      · exact (cross_ties ha (G := fun q => X (2 * L.length + 2 * q)) (A := fun e => X (2 * e + 1)) (B := fun e => X (2 * e)) (s := 1) h0 h1 p (by omega) (fun e he hes => by
          rcases gap_cols g h hX he with ⟨_, r1, r2, r3, r4⟩ | ⟨o, _⟩
          · exact ⟨r1, r2, r3, r4⟩
          · omega) (fun e he _ hne => (hk e he (by simpa using hne)).symm) hon hc).symm
    intro e he
    rcases Nat.decEq e e0 with q | q
    · exact hk e he (by simpa using q)
    · rw [q]; exact tied)
  have := ct_but_one h0
  omega
/-- A code of passes alone is flat if and only if its arcs do not cross. -/
theorem plain_flat (g : Good K L) (h : AllP L) : flatB L = true ↔ NoX L.length (atN L) := by
  refine ⟨plain_nox g h, fun hx => ?_⟩
  have h1 := plain_ge g h hx
  have h2 := plain_le g
  unfold flatB
  simp only [beq_iff_eq]
  rw [h.cN, h.pN _ (Nat.le_refl _)]
  omega
end
end Go.Proofs.YtkjcmppaapbabaaDoor
