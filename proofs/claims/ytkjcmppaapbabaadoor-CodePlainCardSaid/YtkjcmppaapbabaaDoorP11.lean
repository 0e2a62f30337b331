/-
  Plain: ranks that draw a reduced word are unique, and they are the program's. No walk.
-/
import Derived.Test.YtkjcmppaapbabaaDoorR3
import Derived.Test.YtkjcmppaapbabaaDoorC4
import Derived.Test.YtkjcmppaapbabaaDoorJP
namespace Go.Proofs.YtkjcmppaapbabaaDoor
def Bef (L S : List Int) (i j : Nat) : Prop := lat L i < lat L j ∨ (lat L i = lat L j ∧ lat S i < lat S j)
def Btw (L S : List Int) (x a b : Nat) : Prop := (Bef L S a x ∧ Bef L S x b) ∨ (Bef L S b x ∧ Bef L S x a)
theorem bef_iff {L S : List Int} {i j : Nat} : befB L S i j = true ↔ Bef L S i j := by unfold befB Bef; simp
theorem btw_iff {L S : List Int} {x a b : Nat} : btwB L S x a b = true ↔ Btw L S x a b := by
  unfold btwB Btw
  simp [bef_iff]
theorem btw_symm {L S : List Int} {x a b : Nat} : Btw L S x a b ↔ Btw L S x b a := by unfold Btw; exact Or.comm
theorem drawn_ne {L S : List Int} (h : DrawnR L S) {i j : Nat} (hi : i < L.length) (hj : j < L.length) (hij : i ≠ j) (hg : lat L i = lat L j) : lat S i ≠ lat S j := by
  intro e
  have h1 := (h.2.1 i hi).2.2
  unfold sameN at h1
  have bi : bothB L S i i = true := by simp [bothB]
  have bj : bothB L S i j = true := by unfold bothB; rw [hg, e]; simp
  rcases Nat.lt_or_gt_of_ne hij with h2 | h2
  · have := countTo_two h2 hj bi bj; omega
  · have := countTo_two h2 hi bj bi; omega
theorem bef_total {L S : List Int} (h : DrawnR L S) {i j : Nat} (hi : i < L.length) (hj : j < L.length) (hij : i ≠ j) : Bef L S i j ∨ Bef L S j i := by
  unfold Bef
  by_cases hg : lat L i = lat L j
  · have := drawn_ne h hi hj hij hg
    omega
  · omega
def stp (n : Nat) (f : Bool) : Nat := if f then 1 else n - 1
def sd (f : Bool) (i : Nat) : Nat := if f then i % 2 else (i + 1) % 2
theorem stp_back {n i : Nat} (hi : i < n) : (i = 0 ∧ (i + (n - 1)) % n = n - 1) ∨ (0 < i ∧ (i + (n - 1)) % n = i - 1) := by
  by_cases h0 : i = 0
  · left; subst h0; rw [Nat.zero_add, Nat.mod_eq_of_lt (by omega)]; exact ⟨rfl, rfl⟩
  · right
    rw [show i + (n - 1) = (i - 1) + n by omega, Nat.add_mod_right, Nat.mod_eq_of_lt (by omega)]
    exact ⟨by omega, rfl⟩
theorem arc_of {n i : Nat} (f : Bool) (hi : i < n) (he : n % 2 = 0) :
    ∃ k k1, k < n ∧ k1 < n ∧ k1 = (k + 1) % n ∧ k % 2 = sd f i ∧ ((i = k ∧ (i + stp n f) % n = k1) ∨ (i = k1 ∧ (i + stp n f) % n = k)) := by
  cases f with
  | true => exact ⟨i, (i + 1) % n, hi, Nat.mod_lt _ (by omega), rfl, rfl, .inl ⟨rfl, rfl⟩⟩
  | false =>
    unfold stp sd
    simp only [Bool.false_eq_true, if_false]
    rcases stp_back hi with ⟨h0, h⟩ | ⟨h0, h⟩
    · refine ⟨n - 1, i, by omega, hi, ?_, by omega, .inr ⟨rfl, h⟩⟩
      rw [show n - 1 + 1 = n by omega, Nat.mod_self, h0]
    · refine ⟨i - 1, i, by omega, hi, ?_, by omega, .inr ⟨rfl, h⟩⟩
      rw [show i - 1 + 1 = i by omega, Nat.mod_eq_of_lt hi]
/-- Two arcs of one side do not cross. -/
theorem noncross {L S : List Int} (h : DrawnR L S) (he : L.length % 2 = 0) {i j : Nat} (p q : Bool) (hi : i < L.length) (hj : j < L.length) (hij : i ≠ j) (hjx : j ≠ (i + stp L.length p) % L.length) (hs : sd p i = sd q j) :
    Btw L S j i ((i + stp L.length p) % L.length) ↔ Btw L S ((j + stp L.length q) % L.length) i ((i + stp L.length p) % L.length) := by
  obtain ⟨k, k1, hk, hk1, ek, pk, hc⟩ := arc_of p hi he
  obtain ⟨l, l1, hl, hl1, el, pl, hd⟩ := arc_of q hj he
  generalize (i + stp L.length p) % L.length = x at hc hjx ⊢
  generalize (j + stp L.length q) % L.length = y at hd ⊢
  have hne : l ≠ k := by
    intro e
    have e1 : l1 = k1 := by rw [el, ek, e]
    rcases hc with ⟨c1, c2⟩ | ⟨c1, c2⟩ <;> rcases hd with ⟨d1, d2⟩ | ⟨d1, d2⟩ <;> omega
  have ha := h.2.2 k l hk hl (by rw [pk, pl, hs]) hne
  rw [← ek, ← el] at ha
  have hb : Btw L S l k k1 ↔ Btw L S l1 k k1 := by rw [← btw_iff, ← btw_iff, ha]
  rcases hc with ⟨c1, c2⟩ | ⟨c1, c2⟩ <;> rcases hd with ⟨d1, d2⟩ | ⟨d1, d2⟩
  · subst c1; subst c2; subst d1; subst d2; exact hb
  · subst c1; subst c2; subst d1; subst d2; exact hb.symm
  · subst c1; subst c2; subst d1; subst d2
    rw [btw_symm, hb, btw_symm]
  · subst c1; subst c2; subst d1; subst d2
    rw [btw_symm, ← hb, btw_symm]
theorem red_ne {L : List Int} (hr : redB L = true) {i : Nat} (hi : i < L.length) : lat L i ≠ lat L ((i + 1) % L.length) := by
  have hp : pairI L < 0 := by
    unfold redB at hr
    simp at hr
    exact hr.2
  have := pairI_none hp i hi
  intro e
  have hn : (i + 1) % L.length < L.length := Nat.mod_lt _ (by omega)
  have h1 := eqNext_of rfl (List.getElem?_eq_getElem hi) rfl (List.getElem?_eq_getElem hn)
  rw [this] at h1
  unfold lat at e
  rw [List.getElem?_eq_getElem hi, List.getElem?_eq_getElem hn] at e
  simp at h1 e
  exact h1 e
theorem red_ne_step {L : List Int} (hr : redB L = true) (f : Bool) {i : Nat} (hi : i < L.length) (he : L.length % 2 = 0) : lat L i ≠ lat L ((i + stp L.length f) % L.length) := by
  obtain ⟨k, k1, hk, _, ek, _, hc⟩ := arc_of f hi he
  have := red_ne hr hk
  rw [← ek] at this
  rcases hc with ⟨c1, c2⟩ | ⟨c1, c2⟩
  · rw [c2, c1]; exact this
  · rw [c2, c1]; exact fun e => this e.symm
theorem lat_bd {L : List Int} (h : In40 L) (i : Nat) : 0 ≤ lat L i ∧ lat L i ≤ 40 := by
  unfold lat
  cases hx : L[i]? with
  | none => simp
  | some x => exact h x (List.mem_of_getElem? hx)
/-- One step along two strands that lie side by side. -/
theorem step_bef {L S : List Int} (h : DrawnR L S) (hr : redB L = true) (h40 : In40 L) (he : L.length % 2 = 0) {i j : Nat} (p q : Bool) (hi : i < L.length) (hj : j < L.length) (hij : i ≠ j) (hg : lat L i = lat L j) (hs : sd p i = sd q j)
    (hb : Bef L S i j) :
    aheadI (lat L j) (lat L ((j + stp L.length q) % L.length)) ≤ aheadI (lat L i) (lat L ((i + stp L.length p) % L.length)) ∧
    (aheadI (lat L i) (lat L ((i + stp L.length p) % L.length)) = aheadI (lat L j) (lat L ((j + stp L.length q) % L.length)) →
      lat L ((i + stp L.length p) % L.length) = lat L ((j + stp L.length q) % L.length) ∧ Bef L S ((j + stp L.length q) % L.length) ((i + stp L.length p) % L.length)) := by
  have nx := red_ne_step hr p hi he
  have ny := red_ne_step hr q hj he
  have hjx : j ≠ (i + stp L.length p) % L.length := fun e => nx (by rw [← e]; exact hg)
  have hiy : i ≠ (j + stp L.length q) % L.length := fun e => ny (by rw [← e]; exact hg.symm)
  have c1 := noncross h he p q hi hj hij hjx hs
  have c2 := noncross h he q p hj hi (fun e => hij e.symm) hiy hs.symm
  have bx := lat_bd h40 ((i + stp L.length p) % L.length)
  have by_ := lat_bd h40 ((j + stp L.length q) % L.length)
  have bg := lat_bd h40 j
  generalize (i + stp L.length p) % L.length = x at *
  generalize (j + stp L.length q) % L.length = y at *
  unfold Btw Bef at c1 c2
  unfold Bef at hb ⊢
  unfold aheadI
  rw [hg] at *
  generalize lat L j = g at *
  generalize lat L x = gx at *
  generalize lat L y = gy at *
  generalize lat S i = si at *
  generalize lat S j = sj at *
  generalize lat S x = sx at *
  generalize lat S y = sy at *
  clear h hr h40 he hi hj hs
  rcases Int.lt_or_gt_of_ne nx with h1 | h1 <;> rcases Int.lt_or_gt_of_ne ny with h2 | h2
  · rw [if_pos h1, if_pos h2]; omega
  · rw [if_pos h1, if_neg (show ¬g < gy by omega)]; omega
  · rw [if_neg (show ¬g < gx by omega), if_pos h2]; omega
  · rw [if_neg (show ¬g < gx by omega), if_neg (show ¬g < gy by omega)]; omega
theorem sd_step {n i : Nat} (f : Bool) (hi : i < n) (he : n % 2 = 0) : sd f ((i + stp n f) % n) = (sd f i + 1) % 2 := by
  cases f with
  | true =>
    show ((i + 1) % n) % 2 = (i % 2 + 1) % 2
    rcases nxt_cases hi with ⟨h, _⟩ | ⟨h, h'⟩ <;> rw [h] <;> omega
  | false =>
    show ((i + (n - 1)) % n + 1) % 2 = ((i + 1) % 2 + 1) % 2
    rcases stp_back hi with ⟨h0, h⟩ | ⟨h0, h⟩ <;> rw [h] <;> omega
/-- The followed strands tell on which side they lie, if they part. -/
theorem ordF_bef {L S : List Int} (h : DrawnR L S) (hr : redB L = true) (h40 : In40 L) (he : L.length % 2 = 0) (p q : Bool) : ∀ (f i j : Nat) (s : Int), i < L.length → j < L.length → i ≠ j → lat L i = lat L j → sd p i = sd q j →
    (Bef L S i j → ordF L (stp L.length p) (stp L.length q) f i j s = 0 ∨ ordF L (stp L.length p) (stp L.length q) f i j s = s) ∧
    (Bef L S j i → ordF L (stp L.length p) (stp L.length q) f i j s = 0 ∨ ordF L (stp L.length p) (stp L.length q) f i j s = -s) := by
  intro f
  induction f with
  | zero => intro i j s _ _ _ _ _; exact ⟨fun _ => .inl rfl, fun _ => .inl rfl⟩
  | succ f ih =>
    intro i j s hi hj hij hg hs
    have hx : (i + stp L.length p) % L.length < L.length := Nat.mod_lt _ (by omega)
    have hy : (j + stp L.length q) % L.length < L.length := Nat.mod_lt _ (by omega)
    have hs' : sd p ((i + stp L.length p) % L.length) = sd q ((j + stp L.length q) % L.length) := by rw [sd_step p hi he, sd_step q hj he, hs]
    have irr : ∀ a b, Bef L S a b → a ≠ b := fun a b hb e => by subst e; unfold Bef at hb; omega
    rw [ordF]
    constructor
    · intro hb
      obtain ⟨a1, a2⟩ := step_bef h hr h40 he p q hi hj hij hg hs hb
      by_cases heq : aheadI (lat L i) (lat L ((i + stp L.length p) % L.length)) = aheadI (lat L j) (lat L ((j + stp L.length q) % L.length))
      · rw [if_pos heq]
        obtain ⟨e1, e2⟩ := a2 heq
        have := (ih _ _ (-s) hx hy (fun e => irr _ _ e2 e.symm) e1 hs').2 e2
        rwa [Int.neg_neg] at this
      · rw [if_neg heq, if_neg (by omega)]
        exact .inr rfl
    · intro hb
      obtain ⟨a1, a2⟩ := step_bef h hr h40 he q p hj hi (fun e => hij e.symm) hg.symm hs.symm hb
      by_cases heq : aheadI (lat L i) (lat L ((i + stp L.length p) % L.length)) = aheadI (lat L j) (lat L ((j + stp L.length q) % L.length))
      · rw [if_pos heq]
        obtain ⟨e1, e2⟩ := a2 heq.symm
        exact (ih _ _ (-s) hx hy (irr _ _ e2) e1.symm hs').1 e2
      · rw [if_neg heq, if_pos (by omega)]
        exact .inr rfl
/-- Where a strand is behind t steps. -/
def itS (n a i t : Nat) : Nat := (i + t * a) % n
theorem itS_zero {n a i : Nat} (hi : i < n) : itS n a i 0 = i := by unfold itS; rw [Nat.zero_mul, Nat.add_zero, Nat.mod_eq_of_lt hi]
theorem itS_succ (n a i t : Nat) : itS n a i (t + 1) = itS n a ((i + a) % n) t := by
  unfold itS
  rw [Nat.mod_add_mod, Nat.succ_mul]
  congr 1
  omega
def BefO (L S : List Int) (o : Bool) (i j : Nat) : Prop := if o then Bef L S i j else Bef L S j i
theorem ordF_zero {L S : List Int} (h : DrawnR L S) (hr : redB L = true) (h40 : In40 L) (he : L.length % 2 = 0) (p q : Bool) : ∀ (f i j : Nat) (s : Int) (o : Bool), s ≠ 0 → i < L.length → j < L.length → i ≠ j → lat L i = lat L j → sd p i = sd q j →
    BefO L S o i j → ordF L (stp L.length p) (stp L.length q) f i j s = 0 → ∀ t, t ≤ f → lat L (itS L.length (stp L.length p) i t) = lat L (itS L.length (stp L.length q) j t) ∧
      BefO L S (if t % 2 = 0 then o else !o) (itS L.length (stp L.length p) i t) (itS L.length (stp L.length q) j t) := by
  intro f
  induction f with
  | zero =>
    intro i j s o _ hi hj _ hg _ hb _ t ht
    obtain rfl : t = 0 := by omega
    rw [itS_zero hi, itS_zero hj]
    exact ⟨hg, hb⟩
  | succ f ih =>
    intro i j s o hs0 hi hj hij hg hs hb hz t ht
    have hx : (i + stp L.length p) % L.length < L.length := Nat.mod_lt _ (by omega)
    have hy : (j + stp L.length q) % L.length < L.length := Nat.mod_lt _ (by omega)
    have hs' : sd p ((i + stp L.length p) % L.length) = sd q ((j + stp L.length q) % L.length) := by rw [sd_step p hi he, sd_step q hj he, hs]
    have irr : ∀ a b, Bef L S a b → a ≠ b := fun a b hb e => by subst e; unfold Bef at hb; omega
    cases t with
    | zero =>
      rw [itS_zero hi, itS_zero hj]
      exact ⟨hg, hb⟩
    | succ t =>
      rw [ordF] at hz
      by_cases heq : aheadI (lat L i) (lat L ((i + stp L.length p) % L.length)) = aheadI (lat L j) (lat L ((j + stp L.length q) % L.length))
      · rw [if_pos heq] at hz
        have key : lat L ((i + stp L.length p) % L.length) = lat L ((j + stp L.length q) % L.length) ∧ BefO L S (!o) ((i + stp L.length p) % L.length) ((j + stp L.length q) % L.length) := by
          cases o with
          | true => exact (step_bef h hr h40 he p q hi hj hij hg hs hb).2 heq
          | false =>
            have := (step_bef h hr h40 he q p hj hi (fun e => hij e.symm) hg.symm hs.symm hb).2 heq.symm
            exact ⟨this.1.symm, this.2⟩
        have hne : (i + stp L.length p) % L.length ≠ (j + stp L.length q) % L.length := by
          have := key.2
          unfold BefO at this
          split at this
          · exact irr _ _ this
          · exact fun e => irr _ _ this e.symm
        have := ih _ _ (-s) (!o) (by omega) hx hy hne key.1 hs' key.2 hz t (by omega)
        rw [itS_succ, itS_succ]
        refine ⟨this.1, ?_⟩
        have h2 := this.2
        rcases Nat.mod_two_eq_zero_or_one t with ht2 | ht2
        · rw [if_pos ht2] at h2
          rw [if_neg (by omega)]
          exact h2
        · rw [if_neg (by omega), Bool.not_not] at h2
          rw [if_pos (by omega)]
          exact h2
      · rw [if_neg heq] at hz
        split at hz <;> omega
/-- A greatest one. -/
theorem greatest {L S : List Int} (g : Nat → Nat) : ∀ N, 0 < N → ∃ u, u < N ∧ ∀ t, t < N → ¬Bef L S (g u) (g t)
  | 0, h => by omega
  | 1, _ => ⟨0, by omega, fun t ht hb => by
    obtain rfl : t = 0 := by omega
    unfold Bef at hb; omega⟩
  | N + 2, _ => by
    obtain ⟨u, hu, hm⟩ := greatest (L := L) (S := S) g (N + 1) (by omega)
    by_cases hb : Bef L S (g u) (g (N + 1))
    · refine ⟨N + 1, by omega, fun t ht hc => ?_⟩
      by_cases e : t = N + 1
      · subst e; unfold Bef at hc; omega
      · refine hm t (by omega) ?_
        unfold Bef at hb hc ⊢
        omega
    · refine ⟨u, by omega, fun t ht hc => ?_⟩
      by_cases e : t = N + 1
      · subst e; exact hb hc
      · exact hm t (by omega) hc
theorem mul_pred {e n : Nat} (hn : 0 < n) : e * (n - 1) + e = e * n := by
  obtain ⟨k, rfl⟩ : ∃ k, n = k + 1 := ⟨n - 1, by omega⟩
  rw [Nat.add_sub_cancel, Nat.mul_succ]
/-- From i one comes to j. -/
theorem reach {n i j : Nat} (p : Bool) (hi : i < n) (hj : j < n) (_ : i ≠ j) (he : n % 2 = 0) (h2 : i % 2 = j % 2) : ∃ e, e % 2 = 0 ∧ itS n (stp n p) i e = j := by
  cases p with
  | true =>
    show ∃ e, e % 2 = 0 ∧ (i + e * 1) % n = j
    by_cases h : i < j
    · exact ⟨j - i, by omega, by rw [Nat.mul_one, show i + (j - i) = j by omega, Nat.mod_eq_of_lt hj]⟩
    · exact ⟨j + n - i, by omega, by rw [Nat.mul_one, show i + (j + n - i) = j + n by omega, Nat.add_mod_right, Nat.mod_eq_of_lt hj]⟩
  | false =>
    show ∃ e, e % 2 = 0 ∧ (i + e * (n - 1)) % n = j
    by_cases h : j < i
    · refine ⟨i - j, by omega, ?_⟩
      have hm := mul_pred (e := i - j) (n := n) (by omega)
      rw [show i + (i - j) * (n - 1) = j + (i - j) * n by omega, Nat.add_mul_mod_self_right, Nat.mod_eq_of_lt hj]
    · refine ⟨i + n - j, by omega, ?_⟩
      have hm := mul_pred (e := i + n - j) (n := n) (by omega)
      have hm2 : (i + n - j) * n = (i + n - j - 1) * n + n := by
        obtain ⟨k, hk⟩ : ∃ k, i + n - j = k + 1 := ⟨i + n - j - 1, by omega⟩
        rw [hk, Nat.add_sub_cancel, Nat.succ_mul]
      rw [show i + (i + n - j) * (n - 1) = j + (i + n - j - 1) * n by omega, Nat.add_mul_mod_self_right, Nat.mod_eq_of_lt hj]
theorem itS_add (n a i e t : Nat) : itS n a (itS n a i e) t = itS n a i (t + e) := by
  unfold itS
  rw [Nat.mod_add_mod, Nat.add_mul]
  congr 1
  omega
theorem itS_mod {n a i t : Nat} : itS n a i (t % n) = itS n a i t := by
  unfold itS
  conv => rhs; rw [← Nat.div_add_mod t n]
  rw [Nat.add_mul, Nat.mul_assoc, show i + (n * (t / n * a) + t % n * a) = (i + t % n * a) + n * (t / n * a) by omega, Nat.add_mul_mod_self_left]
/-- A strand that goes forth meets one that comes back. -/
theorem meet {n i j : Nat} (hi : i < n) (hj : j < n) (he : n % 2 = 0) (h2 : i % 2 ≠ j % 2) : ∃ t, t ≤ n ∧ itS n (n - 1) j t = (itS n 1 i t + 1) % n := by
  unfold itS
  by_cases h : i < j
  · obtain ⟨t, ht⟩ : ∃ t, j = i + 2 * t + 1 := ⟨(j - i - 1) / 2, by omega⟩
    refine ⟨t, by omega, ?_⟩
    have hm := mul_pred (e := t) (n := n) (by omega)
    rw [Nat.mul_one, Nat.mod_add_mod, show j + t * (n - 1) = i + t + 1 + t * n by omega, Nat.add_mul_mod_self_right]
  · obtain ⟨t, ht⟩ : ∃ t, j + n = i + 2 * t + 1 := ⟨(j + n - i - 1) / 2, by omega⟩
    refine ⟨t, by omega, ?_⟩
    have hm := mul_pred (e := t) (n := n) (by omega)
    rw [Nat.mul_one, Nat.mod_add_mod, ← Nat.add_mod_right, show j + t * (n - 1) + n = i + t + 1 + t * n by omega, Nat.add_mul_mod_self_right]
theorem ordF_ne {L S : List Int} (h : DrawnR L S) (hr : redB L = true) (h40 : In40 L) (he : L.length % 2 = 0) (p q : Bool) {i j : Nat} {s : Int} (hs0 : s ≠ 0) (hi : i < L.length) (hj : j < L.length) (hij : i ≠ j) (hg : lat L i = lat L j) (hs : sd p i = sd q j) :
    ordF L (stp L.length p) (stp L.length q) (L.length + 1) i j s ≠ 0 := by
  intro hz
  obtain ⟨o, hb⟩ : ∃ o, BefO L S o i j := by
    rcases bef_total h hi hj hij with hb | hb
    · exact ⟨true, hb⟩
    · exact ⟨false, hb⟩
  have H := ordF_zero h hr h40 he p q (L.length + 1) i j s o hs0 hi hj hij hg hs hb hz
  have one : ∀ (i j : Nat), i < L.length → j < L.length → i % 2 ≠ j % 2 → (∀ t, t ≤ L.length + 1 → lat L (itS L.length 1 i t) = lat L (itS L.length (L.length - 1) j t)) → False := fun i j hi hj h2 hH => by
    obtain ⟨t, ht, e⟩ := meet hi hj he h2
    have h1 := hH t (by omega)
    rw [e] at h1
    exact red_ne hr (show itS L.length 1 i t < L.length from Nat.mod_lt _ (by omega)) h1
  have two : ∀ (i j : Nat) (p : Bool), i < L.length → j < L.length → i ≠ j → i % 2 = j % 2 → (∀ t, t ≤ L.length + 1 → t % 2 = 0 → Bef L S (itS L.length (stp L.length p) i t) (itS L.length (stp L.length p) j t)) → False := fun i j p hi hj hij h2 hH => by
    obtain ⟨e, he2, hje⟩ := reach p hi hj hij he h2
    obtain ⟨u, hu, hm⟩ := greatest (L := L) (S := S) (fun u => itS L.length (stp L.length p) i (2 * u)) (L.length / 2) (by omega)
    have h1 := hH (2 * u) (by omega) (by omega)
    rw [← hje, itS_add, ← itS_mod (t := 2 * u + e)] at h1
    have hlt : (2 * u + e) % L.length < L.length := Nat.mod_lt _ (by omega)
    have hev : (2 * u + e) % L.length % 2 = 0 := by
      have hd := Nat.div_add_mod (2 * u + e) L.length
      obtain ⟨k, hk⟩ : ∃ k, L.length = 2 * k := ⟨L.length / 2, by omega⟩
      have : L.length * ((2 * u + e) / L.length) = 2 * (k * ((2 * u + e) / L.length)) := by
        conv => lhs; rw [hk, Nat.mul_assoc]
        rw [← hk]
      omega
    refine hm ((2 * u + e) % L.length / 2) (by omega) ?_
    show Bef L S _ (itS L.length (stp L.length p) i (2 * ((2 * u + e) % L.length / 2)))
    rw [show 2 * ((2 * u + e) % L.length / 2) = (2 * u + e) % L.length by omega]
    exact h1
  cases p <;> cases q
  · have h2 : i % 2 = j % 2 := by unfold sd at hs; simp at hs; omega
    cases o with
    | true => exact two i j false hi hj hij h2 fun t ht h0 => by have := (H t ht).2; rw [if_pos h0] at this; exact this
    | false => exact two j i false hj hi (fun e => hij e.symm) h2.symm fun t ht h0 => by have := (H t ht).2; rw [if_pos h0] at this; exact this
  · have h2 : j % 2 ≠ i % 2 := by unfold sd at hs; simp at hs; omega
    exact one j i hj hi h2 fun t ht => (H t ht).1.symm
  · have h2 : i % 2 ≠ j % 2 := by unfold sd at hs; simp at hs; omega
    exact one i j hi hj h2 fun t ht => (H t ht).1
  · have h2 : i % 2 = j % 2 := by unfold sd at hs; simpa using hs
    cases o with
    | true => exact two i j true hi hj hij h2 fun t ht h0 => by have := (H t ht).2; rw [if_pos h0] at this; exact this
    | false => exact two j i true hj hi (fun e => hij e.symm) h2.symm fun t ht h0 => by have := (H t ht).2; rw [if_pos h0] at this; exact this
theorem order_stp (L : List Int) (i j : Nat) : orderI L i j = ordF L (stp L.length (decide (i % 2 = 0))) (stp L.length (decide (j % 2 = 0))) (L.length + 1) i j (-1) := by
  unfold orderI stepN stp
  by_cases h1 : i % 2 = 0 <;> by_cases h2 : j % 2 = 0 <;> simp [h1, h2]
theorem sd_dec (i : Nat) : sd (decide (i % 2 = 0)) i = 0 := by
  unfold sd
  by_cases h : i % 2 = 0
  · simp [h]
  · simp [h]; omega
theorem order_iff {L S : List Int} (h : DrawnR L S) (hr : redB L = true) (h40 : In40 L) (he : L.length % 2 = 0) {i j : Nat} (hi : i < L.length) (hj : j < L.length) (hij : i ≠ j) (hg : lat L i = lat L j) :
    (orderI L i j = 1 ↔ Bef L S j i) ∧ orderI L i j ≠ 0 := by
  have hs : sd (decide (i % 2 = 0)) i = sd (decide (j % 2 = 0)) j := by rw [sd_dec, sd_dec]
  have a1 := ordF_bef h hr h40 he (decide (i % 2 = 0)) (decide (j % 2 = 0)) (L.length + 1) i j (-1) hi hj hij hg hs
  have a2 := ordF_ne h hr h40 he (decide (i % 2 = 0)) (decide (j % 2 = 0)) (s := -1) (by omega) hi hj hij hg hs
  rw [← order_stp] at a1 a2
  refine ⟨?_, a2⟩
  rcases bef_total h hi hj hij with hb | hb
  · have := a1.1 hb
    exact ⟨fun e => by omega, fun hc => by unfold Bef at hb hc; omega⟩
  · have := a1.2 hb
    exact ⟨fun _ => hb, fun _ => by omega⟩
theorem countTo_congr {p q : Nat → Bool} {n : Nat} (h : ∀ m, m < n → p m = q m) : countTo p n = countTo q n := by
  induction n with
  | zero => rfl
  | succ n ih =>
    unfold countTo
    rw [ih (fun m hm => h m (by omega)), h n (by omega)]
theorem countTo_none {p : Nat → Bool} {n : Nat} (h : ∀ m, m < n → p m = false) : countTo p n = 0 := by
  induction n with
  | zero => rfl
  | succ n ih => rw [countTo_no (h n (by omega))]; exact ih (fun m hm => h m (by omega))
theorem countTo_or (p q : Nat → Bool) (n : Nat) : countTo (fun m => p m || q m) n ≤ countTo p n + countTo q n := by
  induction n with
  | zero => exact Nat.le_refl _
  | succ n ih =>
    unfold countTo
    cases p n <;> cases q n <;> simp <;> omega
theorem countTo_sub {p q : Nat → Bool} {n : Nat} (h : ∀ m, m < n → p m = true → q m = true) : countTo p n ≤ countTo q n := by
  induction n with
  | zero => exact Nat.le_refl _
  | succ n ih =>
    have := ih (fun m hm => h m (by omega))
    have h2 := h n (by omega)
    unfold countTo
    cases hp : p n <;> cases hq : q n <;> simp [hp, hq] at h2 ⊢ <;> omega
theorem countTo_lt {p q : Nat → Bool} {n i : Nat} (h : ∀ m, m < n → p m = true → q m = true) (hi : i < n) (hq : q i = true) (hp : p i = false) : countTo p n + 1 ≤ countTo q n := by
  induction n with
  | zero => omega
  | succ n ih =>
    by_cases e : i = n
    · subst e
      rw [countTo_no hp, countTo_yes hq]
      have := countTo_sub (n := i) (fun m hm => h m (by omega))
      omega
    · have := ih (fun m hm => h m (by omega)) (by omega)
      have h2 := h n (by omega)
      unfold countTo
      cases hp : p n <;> cases hq : q n <;> simp [hp, hq] at h2 ⊢ <;> omega
theorem countTo_one {p : Nat → Bool} {n i : Nat} (hi : i < n) (hp : p i = true) (h : ∀ m, m < n → p m = true → m = i) : countTo p n = 1 := by
  induction n with
  | zero => omega
  | succ n ih =>
    by_cases e : i = n
    · subst e
      rw [countTo_yes hp, countTo_none]
      intro m hm
      cases hq : p m with
      | false => rfl
      | true => have := h m (by omega) hq; omega
    · have hn : p n = false := by
        cases hq : p n with
        | false => rfl
        | true => have := h n (by omega) hq; omega
      rw [countTo_no hn]
      exact ih (by omega) (fun m hm => h m (by omega))
def lowB (L S : List Int) (i : Nat) (v : Int) (m : Nat) : Bool := gateB L i m && decide (lat S m ≤ v)
theorem low_step {L S : List Int} (h : DrawnR L S) (i : Nat) (v : Int) : countTo (lowB L S i (v + 1)) L.length ≤ countTo (lowB L S i v) L.length + 1 := by
  have e : countTo (lowB L S i (v + 1)) L.length = countTo (fun m => lowB L S i v m || (gateB L i m && decide (lat S m = v + 1))) L.length := by
    refine countTo_congr fun m _ => ?_
    unfold lowB
    cases gateB L i m
    · rfl
    · simp only [Bool.true_and]
      rw [← Bool.decide_or]
      apply decide_eq_decide.2
      omega
  rw [e]
  refine Nat.le_trans (countTo_or _ _ _) ?_
  refine Nat.add_le_add_left ?_ _
  by_cases hx : ∃ k, k < L.length ∧ (gateB L i k && decide (lat S k = v + 1)) = true
  · obtain ⟨k, hk, hp⟩ := hx
    simp [gateB] at hp
    have h1 := (h.2.1 k hk).2.2
    unfold sameN at h1
    rw [← h1]
    refine Nat.le_of_eq (countTo_congr fun m _ => ?_)
    unfold gateB bothB
    rw [hp.1, hp.2]
  · rw [countTo_none]
    · omega
    · intro m hm
      cases hq : (gateB L i m && decide (lat S m = v + 1)) with
      | false => rfl
      | true => exact absurd ⟨m, hm, hq⟩ hx
theorem gate_eq {L : List Int} {i m : Nat} (h : lat L i = lat L m) : gateB L i = gateB L m := by
  funext k
  unfold gateB
  rw [h]
theorem low_is {L S : List Int} (h : DrawnR L S) (i : Nat) : ∀ v : Nat, v ≤ manyN L i → countTo (lowB L S i (v : Int)) L.length = v := by
  have h0 : countTo (lowB L S i ((0 : Nat) : Int)) L.length = 0 := countTo_none fun m hm => by
    have := (h.2.1 m hm).1
    unfold lowB
    have : ¬lat S m ≤ ((0 : Nat) : Int) := by omega
    simp only [this, decide_false, Bool.and_false]
  have hup : ∀ v k : Nat, countTo (lowB L S i ((v + k : Nat) : Int)) L.length ≤ countTo (lowB L S i (v : Int)) L.length + k := by
    intro v k
    induction k with
    | zero => exact Nat.le_refl _
    | succ k ih =>
      have := low_step h i ((v + k : Nat) : Int)
      rw [show ((v + (k + 1) : Nat) : Int) = ((v + k : Nat) : Int) + 1 by omega]
      omega
  have hall : countTo (lowB L S i ((manyN L i : Nat) : Int)) L.length = manyN L i := by
    show _ = countTo (gateB L i) L.length
    refine countTo_congr fun m hm => ?_
    unfold lowB
    cases hg : gateB L i m with
    | false => rfl
    | true =>
      have h1 := (h.2.1 m hm).2.1
      have hgm : lat L i = lat L m := by unfold gateB at hg; simpa using (by simpa using hg : lat L m = lat L i).symm
      have : manyN L m = manyN L i := by unfold manyN; rw [gate_eq hgm]
      rw [this] at h1
      simpa using h1
  intro v hv
  have a1 := hup 0 v
  rw [Nat.zero_add] at a1
  have a2 := hup v (manyN L i - v)
  rw [show v + (manyN L i - v) = manyN L i by omega, hall] at a2
  have h0' : countTo (lowB L S i (((0 : Nat) : Nat) : Int)) L.length = 0 := h0
  omega
theorem rankTo_count (L : List Int) (i m : Nat) : rankTo L i m = 1 + countTo (fun k => decide (rankHit L i k)) m := by
  induction m with
  | zero => rfl
  | succ m ih =>
    rw [rankTo, ih]
    by_cases hh : rankHit L i m
    · rw [if_pos hh, countTo_yes (by simpa using hh)]; omega
    · rw [if_neg hh, countTo_no (by simpa using hh)]; omega
theorem ranks_is {L S : List Int} (h : DrawnR L S) (hr : redB L = true) (h40 : In40 L) (he : L.length % 2 = 0) {i : Nat} (hi : i < L.length) : (rankTo L i L.length : Int) = lat S i := by
  obtain ⟨h1, h2, _⟩ := h.2.1 i hi
  obtain ⟨k, hk⟩ : ∃ k : Nat, lat S i = (k : Int) + 1 := ⟨(lat S i - 1).toNat, by omega⟩
  have hl := low_is h i k (by omega)
  rw [rankTo_count]
  have : countTo (fun m => decide (rankHit L i m)) L.length = countTo (lowB L S i (k : Int)) L.length := by
    refine countTo_congr fun m hm => ?_
    unfold lowB gateB
    rw [← Bool.decide_and]
    apply decide_eq_decide.2
    unfold rankHit
    constructor
    · rintro ⟨a, b, c⟩
      have := (order_iff h hr h40 he hi hm a b).1.1 c
      unfold Bef at this
      exact ⟨b.symm, by omega⟩
    · rintro ⟨a, b⟩
      have hne : i ≠ m := fun e => by subst e; omega
      refine ⟨hne, a.symm, (order_iff h hr h40 he hi hm hne a.symm).1.2 ?_⟩
      unfold Bef
      exact .inr ⟨a, by omega⟩
  rw [this, hl]
  omega
theorem ranksL_lat {L : List Int} {i : Nat} (hi : i < L.length) : lat (ranksL L) i = (rankTo L i L.length : Int) := lat_of (ranksL_at hi)
theorem place_lt {L S : List Int} {n i j : Nat} (hi : 1 ≤ lat S i ∧ lat S i ≤ n) (hj : 1 ≤ lat S j ∧ lat S j ≤ n) : placeI L S n i < placeI L S n j ↔ Bef L S i j := by
  unfold placeI Bef
  have key : ∀ a b : Int, a < b → a * ((n : Int) + 1) + ((n : Int) + 1) ≤ b * ((n : Int) + 1) := fun a b hab => by
    have := Int.mul_le_mul_of_nonneg_right (show a + 1 ≤ b by omega) (show (0 : Int) ≤ (n : Int) + 1 by omega)
    rw [Int.add_mul, Int.one_mul] at this
    exact this
  rcases Int.lt_trichotomy (lat L i) (lat L j) with h | h | h
  · have := key _ _ h
    constructor
    · intro _; exact .inl h
    · intro _; omega
  · rw [h]
    constructor
    · intro hh; exact .inr ⟨rfl, by omega⟩
    · intro hh; omega
  · have := key _ _ h
    constructor
    · intro hh; omega
    · intro hh; omega
theorem inn_btw {L S : List Int} {n x a b : Nat} (hx : 1 ≤ lat S x ∧ lat S x ≤ n) (ha : 1 ≤ lat S a ∧ lat S a ≤ n) (hb : 1 ≤ lat S b ∧ lat S b ≤ n) :
    inn (placeI L S n x) (placeI L S n a) (placeI L S n b) ↔ Btw L S x a b := by
  unfold Btw
  rw [← place_lt ha hx, ← place_lt hx hb, ← place_lt hb hx, ← place_lt hx ha]
  unfold inn
  omega
theorem ranks_some {L S : List Int} (hr : redB L = true) (h : DrawnR L S) : RanksOk L ∧ S = ranksL L := by
  have hw : wordB L = true := by unfold redB at hr; simp at hr; exact hr.1
  have h40 := in40_of_wordB hw
  have he := wordB_even hw
  have hS : S = ranksL L := by
    apply List.ext_getElem?
    intro i
    by_cases hi : i < L.length
    · have hx : S[i]? = some (S[i]'(by rw [h.1]; exact hi)) := List.getElem?_eq_getElem _
      rw [ranksL_at hi, ranks_is h hr h40 he hi, hx, lat_of hx]
    · rw [List.getElem?_eq_none (by rw [h.1]; omega), List.getElem?_eq_none (by rw [ranksL_len]; omega)]
  refine ⟨⟨fun i j hi hj hij hg => (order_iff h hr h40 he hi hj hij hg).2, ?_⟩, hS⟩
  rw [← hS]
  have many_le : ∀ i, manyN L i ≤ L.length := fun i => countTo_le _ _
  have bd : ∀ i, i < L.length → 1 ≤ lat S i ∧ lat S i ≤ L.length := fun i hi => by
    have := h.2.1 i hi
    have h2 := many_le i
    exact ⟨this.1, by have := this.2.1; omega⟩
  refine ⟨fun i j hji hi ht => drawn_ne h hi (show j < L.length by omega) (by omega) ht.1 ht.2, fun i j hij hj hp => ?_⟩
  have hn : ∀ k, (k + 1) % L.length < L.length := fun k => Nat.mod_lt _ (by omega)
  unfold apart
  rw [inn_btw (bd _ hj) (bd _ (by omega)) (bd _ (hn i)), inn_btw (bd _ (hn j)) (bd _ (by omega)) (bd _ (hn i)), ← btw_iff, ← btw_iff, h.2.2 i j (by omega) hj hp (by omega)]
theorem cross4 {a b c d : Int} (h1 : a ≠ c) (h2 : a ≠ d) (h3 : b ≠ c) (h4 : b ≠ d) (h : inn a c d ↔ inn b c d) : inn c a b ↔ inn d a b := by
  unfold inn at *
  omega
theorem ranks_drawn {L : List Int} (h : RanksOk L) (hr : redB L = true) : DrawnR L (ranksL L) := by
  have hw : wordB L = true := by unfold redB at hr; simp at hr; exact hr.1
  have he := wordB_even hw
  obtain ⟨hP, hD⟩ := h
  have hcnt : ∀ i, i < L.length → countTo (fun k => decide (rankHit L i k)) L.length + 1 ≤ manyN L i := fun i hi =>
    countTo_lt (i := i) (fun m _ hm => by
      have := of_decide_eq_true hm
      unfold gateB
      simpa using this.2.1.symm) hi (by unfold gateB; simp) (by simp [rankHit])
  have many_le : ∀ i, manyN L i ≤ L.length := fun i => countTo_le _ _
  have hat : ∀ i, i < L.length → 1 ≤ lat (ranksL L) i ∧ lat (ranksL L) i ≤ manyN L i := fun i hi => by
    have := hcnt i hi
    rw [ranksL_lat hi, rankTo_count]
    omega
  have bd : ∀ i, i < L.length → 1 ≤ lat (ranksL L) i ∧ lat (ranksL L) i ≤ L.length := fun i hi => by
    have := hat i hi
    have h2 := many_le i
    omega
  have hone : ∀ i m, i < L.length → m < L.length → two L (ranksL L) i m → m = i := fun i m hi hm ht => by
    rcases Nat.lt_trichotomy m i with h1 | h1 | h1
    · exact absurd ht (hD.1 i m h1 hi)
    · exact h1
    · exact absurd (show two L (ranksL L) m i from ⟨ht.1.symm, ht.2.symm⟩) (hD.1 m i h1 hm)
  have hn : ∀ k, k < L.length → (k + 1) % L.length < L.length := fun k hk => Nat.mod_lt _ (by omega)
  have tot : ∀ i j, i < L.length → j < L.length → i ≠ j → Bef L (ranksL L) i j ∨ Bef L (ranksL L) j i := fun i j hi hj hij => by
    have := fun ht => hij (hone i j hi hj ht).symm
    unfold two at this
    unfold Bef
    by_cases hg : lat L i = lat L j
    · have : lat (ranksL L) i ≠ lat (ranksL L) j := fun e => this ⟨hg, e⟩
      omega
    · omega
  have half : ∀ i j, i < j → j < L.length → j % 2 = i % 2 → (Btw L (ranksL L) j i ((i + 1) % L.length) ↔ Btw L (ranksL L) ((j + 1) % L.length) i ((i + 1) % L.length)) := fun i j hij hj hp => by
    have := hD.2 i j hij hj hp
    unfold apart at this
    rwa [inn_btw (bd _ hj) (bd _ (by omega)) (bd _ (hn i (by omega))), inn_btw (bd _ (hn j hj)) (bd _ (by omega)) (bd _ (hn i (by omega)))] at this
  refine ⟨ranksL_len L, fun i hi => ⟨(hat i hi).1, (hat i hi).2, countTo_one hi (by simp [bothB]) fun m hm hb => ?_⟩, fun i j hi hj hp hne => ?_⟩
  · unfold bothB at hb
    simp at hb
    exact hone i m hi hm ⟨hb.1.symm, hb.2.symm⟩
  · have goal : Btw L (ranksL L) j i ((i + 1) % L.length) ↔ Btw L (ranksL L) ((j + 1) % L.length) i ((i + 1) % L.length) := by
      rcases Nat.lt_or_gt_of_ne hne with h1 | h1
      · have h2 := hD.2 j i h1 hi hp.symm
        unfold apart at h2
        have hi1 := hn i hi
        have hj1 := hn j hj
        have ei := nxt_cases hi
        have ej := nxt_cases hj
        have ne : ∀ a b, a < L.length → b < L.length → a ≠ b → placeI L (ranksL L) L.length a ≠ placeI L (ranksL L) L.length b := fun a b ha hb hab e => by
          rcases tot a b ha hb hab with h | h
          · have := (place_lt (bd a ha) (bd b hb)).2 h
            omega
          · have := (place_lt (bd b hb) (bd a ha)).2 h
            omega
        rw [← inn_btw (bd _ hj) (bd _ hi) (bd _ hi1), ← inn_btw (bd _ hj1) (bd _ hi) (bd _ hi1)]
        exact cross4 (ne _ _ hi hj (by omega)) (ne _ _ hi hj1 (by omega)) (ne _ _ hi1 hj (by omega)) (ne _ _ hi1 hj1 (by omega)) h2
      · exact half i j h1 hj hp
    have := goal
    rw [← btw_iff, ← btw_iff] at this
    exact Bool.eq_iff_iff.2 this
end Go.Proofs.YtkjcmppaapbabaaDoor
