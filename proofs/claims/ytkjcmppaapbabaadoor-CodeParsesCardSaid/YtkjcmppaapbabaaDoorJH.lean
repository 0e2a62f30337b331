/-
  Plain: the walks part the darts; both visits of a crossing of a flat code lie on one side of the axis. No walk of the program.
  Plain: a map of darts that carries walks to walks: then there are no more walks behind it than ahead of it. No walk of the program.
  Plain: the swapped, mirrored, turned code, and the one that is traveled backwards. No walk of the program.
  Plain: the renamed code; the order of letters and of codes; the normal form. No walk of the program.
  Plain: images of a code: a map of letters under which walks go to walks (the same way round, or the other way round). No walk of the program.
  Plain: a code whose letters are carried over one by one is valid as the code is. No walk of the program.
  Plain: the code that begins elsewhere, is traveled backwards, mirrored, turned, swapped or renamed is valid again. No walk of the program.
  Plain: the swapped, renamed, mirrored and turned code is valid again. No walk of the program.
  Plain: the normal form is the least of the renamed codes of one string; it does not depend on where the string begins, which way it is traveled, how its crossings are named. No walk of the program.
  Plain: the swapped, mirrored and turned code undo themselves, can be done in any order, and go over to normal forms. No walk of the program.
-/
import Derived.Test.YtkjcmppaapbabaaDoorJA
namespace Go.Proofs.YtkjcmppaapbabaaDoor
section
theorem path_fwd {f : Nat → Nat} {d : Nat} : ∀ {P : List Nat} {x y : Nat}, PathTo f d P x → y ∈ P → f y = x ∨ f y ∈ P
  | [], _, _, _, h => by cases h
  | p :: P, x, y, hp, h => by
    rcases List.mem_cons.1 h with rfl | h
    · exact .inl hp.1.symm
    · rcases path_fwd hp.2 h with e | e
      · right; rw [e]; simp
      · right; simp [e]
theorem path_end {f : Nat → Nat} {d : Nat} : ∀ {P : List Nat} {x : Nat}, PathTo f d P x → P ≠ [] → d ∈ P
  | [], _, _, h => absurd rfl h
  | [p], _, hp, _ => by have : p = d := hp.2; simp [this]
  | p :: q :: P, _, hp, _ => by have := path_end (P := q :: P) hp.2 (by simp); exact List.mem_cons_of_mem _ this
theorem walk_stop {f : Nat → Nat} {d N : Nat} (inj : ∀ x y, x < N → y < N → f x = f y → x = y) (into : ∀ x, x < N → f x < N) {s0 : List Bool} (hback : Back f N s0) (hd0 : sat s0 d = false) {s : List Bool} {P : List Nat} {x : Nat}
    (hs : ∀ y, y < N → (sat s y = true ↔ sat s0 y = true ∨ y ∈ P)) (hp : PathTo f d P x) (hn : P.Nodup) (hP : ∀ y ∈ P, y < N ∧ sat s0 y = false) (hx : x < N) (hsx : sat s x = true) : x = d ∧ P ≠ [] ∧ Back f N s := by
  have hx0 : sat s0 x = false := by
    cases hq : sat s0 x with
    | false => rfl
    | true =>
      cases P with
      | nil => rw [show x = d from hp] at hq; rw [hd0] at hq; cases hq
      | cons p P =>
        have := hback p (hP p (by simp)).1 (by rw [← hp.1]; exact hq)
        rw [(hP p (by simp)).2] at this; cases this
  have hxP : x ∈ P := by
    rcases (hs x hx).1 hsx with h | h
    · rw [hx0] at h; cases h
    · exact h
  have hxd : x = d := by
    rcases Nat.decEq x d with e | e
    · cases P with
      | nil => cases hxP
      | cons p P =>
        obtain ⟨t, ht, he⟩ := path_close inj (P := P) (Q := []) (p := p) (q := x) hp hn (fun y hy => (hP y hy).1) x hxP e
        have : p = t := inj p t (hP p (by simp)).1 (hP t (by simp [ht])).1 (by rw [← hp.1, ← he])
        subst this
        exact absurd ht (List.nodup_cons.1 hn).1
    · exact e
  refine ⟨hxd, (fun e => by rw [e] at hxP; cases hxP), fun y hy hfy => ?_⟩
  rcases (hs (f y) (into y hy)).1 hfy with h | h
  · exact (hs y hy).2 (.inl (hback y hy h))
  · cases P with
    | nil => cases h
    | cons p P =>
      rcases Nat.decEq (f y) d with e | e
      · obtain ⟨t, ht, he⟩ := path_close inj (P := P) (Q := []) (p := p) (q := x) hp hn (fun y hy => (hP y hy).1) (f y) h e
        have : y = t := inj y t hy (hP t (by simp [ht])).1 he
        subst this
        exact (hs y hy).2 (.inr (by simp [ht]))
      · have : y = p := inj y p hy (hP p (by simp)).1 (by rw [e, ← hp.1, hxd])
        subst this
        exact (hs y hy).2 (.inr (by simp))
/-- One walk is a cycle. -/
theorem walk_cyc {f : Nat → Nat} {d N : Nat} (inj : ∀ x y, x < N → y < N → f x = f y → x = y) (into : ∀ x, x < N → f x < N) {s0 : List Bool} (hback : Back f N s0) (hd0 : sat s0 d = false) :
    ∀ (k : Nat) (s : List Bool) (P : List Nat) (x : Nat), s.length = N → (∀ y, y < N → (sat s y = true ↔ sat s0 y = true ∨ y ∈ P)) → PathTo f d P x → P.Nodup → (∀ y ∈ P, y < N ∧ sat s0 y = false) → unN s ≤ k → x < N →
      (walk1 f k s x).2.length = N ∧ Back f N (walk1 f k s x).2 ∧ (∀ y, y < N → (sat (walk1 f k s x).2 y = true ↔ sat s0 y = true ∨ y ∈ P.reverse ++ (walk1 f k s x).1)) ∧ (P.reverse ++ (walk1 f k s x).1).Nodup ∧
      (∀ y ∈ P.reverse ++ (walk1 f k s x).1, y < N ∧ sat s0 y = false ∧ f y ∈ P.reverse ++ (walk1 f k s x).1) ∧ (sat s x = false → x ∈ (walk1 f k s x).1) := by
  have stop : ∀ (s : List Bool) (P : List Nat) (x : Nat), s.length = N → (∀ y, y < N → (sat s y = true ↔ sat s0 y = true ∨ y ∈ P)) → PathTo f d P x → P.Nodup → (∀ y ∈ P, y < N ∧ sat s0 y = false) → x < N → sat s x = true →
      s.length = N ∧ Back f N s ∧ (∀ y, y < N → (sat s y = true ↔ sat s0 y = true ∨ y ∈ P.reverse ++ [])) ∧ (P.reverse ++ []).Nodup ∧ (∀ y ∈ P.reverse ++ [], y < N ∧ sat s0 y = false ∧ f y ∈ P.reverse ++ []) ∧ (sat s x = false → x ∈ ([] : List Nat)) := by
    intro s P x hl hs hp hn hP hx hsx
    obtain ⟨hxd, hne, hB⟩ := walk_stop inj into hback hd0 hs hp hn hP hx hsx
    subst hxd
    refine ⟨hl, hB, fun y hy => by rw [List.append_nil, List.mem_reverse]; exact hs y hy, by rw [List.append_nil]; exact List.pairwise_reverse.2 (hn.imp fun h => Ne.symm h), fun y hy => ?_, fun h => by rw [hsx] at h; cases h⟩
    rw [List.append_nil, List.mem_reverse] at hy
    refine ⟨(hP y hy).1, (hP y hy).2, ?_⟩
    rw [List.append_nil, List.mem_reverse]
    rcases path_fwd hp hy with e | e
    · rw [e]; exact path_end hp hne
    · exact e
  intro k
  induction k with
  | zero =>
    intro s P x hl hs hp hn hP hk hx
    have hsx : sat s x = true := by
      cases hq : sat s x with
      | true => rfl
      | false => have := unN_pos hq; omega
    exact stop s P x hl hs hp hn hP hx hsx
  | succ k ih =>
    intro s P x hl hs hp hn hP hk hx
    cases hsx : sat s x with
    | true =>
      have := stop s P x hl hs hp hn hP hx hsx
      unfold walk1
      rw [if_pos hsx]
      rw [hsx] at this
      exact this
    | false =>
      have hun := unN_set hsx
      have hx0 : sat s0 x = false := by
        cases hq : sat s0 x with
        | false => rfl
        | true => rw [(hs x hx).2 (.inl hq)] at hsx; cases hsx
      have hxP : x ∉ P := fun hm => by rw [(hs x hx).2 (.inr hm)] at hsx; cases hsx
      have hs' : ∀ y, y < N → (sat (s.set x true) y = true ↔ sat s0 y = true ∨ y ∈ x :: P) := by
        intro y hy
        rw [sat_set, Bool.or_eq_true, hs y hy, List.mem_cons]
        simp only [decide_eq_true_eq]
        constructor
        · rintro ((h | h) | h)
          · exact .inl h
          · exact .inr (.inr h)
          · exact .inr (.inl h.symm)
        · rintro (h | h | h)
          · exact .inl (.inl h)
          · exact .inr h.symm
          · exact .inl (.inr h)
      have hP' : ∀ y ∈ x :: P, y < N ∧ sat s0 y = false := by
        intro y hy
        rcases List.mem_cons.1 hy with rfl | hy
        · exact ⟨hx, hx0⟩
        · exact hP y hy
      have r := ih (s.set x true) (x :: P) (f x) (by simpa using hl) hs' ⟨rfl, hp⟩ (List.nodup_cons.2 ⟨hxP, hn⟩) hP' (by omega) (into x hx)
      rw [List.reverse_cons, List.append_assoc] at r
      unfold walk1
      rw [if_neg (by rw [hsx]; simp)]
      exact ⟨r.1, r.2.1, r.2.2.1, r.2.2.2.1, r.2.2.2.2.1, fun _ => by simp⟩
/-- The walks part the darts. -/
theorem walks_parts {f : Nat → Nat} {N : Nat} (inj : ∀ x y, x < N → y < N → f x = f y → x = y) (into : ∀ x, x < N → f x < N) : ∀ (ds : List Nat) (s : List Bool), s.length = N → Back f N s → (∀ d ∈ ds, d < N) →
    (∀ W ∈ walksF f ds s, W ≠ [] ∧ W.Nodup ∧ ∀ y ∈ W, y < N ∧ sat s y = false ∧ f y ∈ W) ∧ (∀ d ∈ ds, sat s d = true ∨ ∃ W ∈ walksF f ds s, d ∈ W) ∧ (walksF f ds s).Pairwise (fun A B => ∀ y, y ∈ A → y ∉ B)
  | [], _, _, _, _ => ⟨fun W h => (by cases h), fun d h => (by cases h), List.Pairwise.nil⟩
  | d :: ds, s, hl, hB, hds => by
    unfold walksF
    cases hsd : sat s d with
    | true =>
      rw [if_pos rfl]
      obtain ⟨h1, h2, h3⟩ := walks_parts inj into ds s hl hB (fun x hx => hds x (by simp [hx]))
      refine ⟨h1, fun x hx => ?_, h3⟩
      rcases List.mem_cons.1 hx with rfl | hx
      · exact .inl hsd
      · exact h2 x hx
    | false =>
      rw [if_neg (by simp)]
      obtain ⟨r1, r2, r3, r4, r5, r6⟩ := walk_cyc inj into hB hsd s.length s [] d hl (fun y _ => by simp) rfl (by simp) (by simp) (unN_le s) (hds d (by simp))
      rw [List.reverse_nil, List.nil_append] at r3 r4 r5
      obtain ⟨h1, h2, h3⟩ := walks_parts inj into ds _ r1 r2 (fun x hx => hds x (by simp [hx]))
      have hdW := r6 hsd
      generalize (walk1 f s.length s d).1 = W at *
      generalize (walk1 f s.length s d).2 = s' at *
      refine ⟨fun V hV => ?_, fun x hx => ?_, ?_⟩
      · rcases List.mem_cons.1 hV with rfl | hV
        · exact ⟨fun e => (by rw [e] at hdW; cases hdW), r4, r5⟩
        · obtain ⟨a, b, c⟩ := h1 V hV
          refine ⟨a, b, fun y hy => ⟨(c y hy).1, ?_, (c y hy).2.2⟩⟩
          cases hq : sat s y with
          | false => rfl
          | true =>
            have := (r3 y (c y hy).1).2 (.inl hq)
            rw [(c y hy).2.1] at this; cases this
      · rcases List.mem_cons.1 hx with rfl | hx
        · exact .inr ⟨W, by simp, hdW⟩
        · rcases h2 x hx with h | ⟨V, hV, hxV⟩
          · rcases (r3 x (hds x (by simp [hx]))).1 h with h | h
            · exact .inl h
            · exact .inr ⟨W, by simp, h⟩
          · exact .inr ⟨V, by simp [hV], hxV⟩
      · refine List.pairwise_cons.2 ⟨fun V hV y hy hyV => ?_, h3⟩
        have := (r3 y (r5 y hy).1).2 (.inr hy)
        rw [((h1 V hV).2.2 y hyV).2.1] at this; cases this
/-- The walk that a dart lies on. -/
theorem walks_lab {f : Nat → Nat} {N : Nat} (inj : ∀ x y, x < N → y < N → f x = f y → x = y) (into : ∀ x, x < N → f x < N) {Ws : List (List Nat)} (hW : Ws = walksF f (List.range N) (List.replicate N false)) :
    ∃ lab : Nat → Nat, (∀ x, x < N → ∃ W, Ws[lab x]? = some W ∧ x ∈ W) ∧ (∀ (x k : Nat) (W : List Nat), x < N → Ws[k]? = some W → x ∈ W → lab x = k) ∧ (∀ x, x < N → lab (f x) = lab x) ∧ ∀ k, k < Ws.length → ∃ x, x < N ∧ lab x = k := by
  obtain ⟨h1, h2, h3⟩ := walks_parts inj into (List.range N) (List.replicate N false) (by simp) (by
    intro y hy hf
    have := into y hy
    simp [sat, this] at hf) (by simp)
  rw [← hW] at h1 h2 h3
  have hex : ∀ x, x < N → ∃ (k : Nat) (W : List Nat), Ws[k]? = some W ∧ x ∈ W := by
    intro x hx
    rcases h2 x (by simpa using hx) with h | ⟨W, hWm, hxW⟩
    · simp [sat, hx] at h
    · obtain ⟨k, hk, e⟩ := List.getElem_of_mem hWm
      exact ⟨k, W, by rw [List.getElem?_eq_getElem hk, e], hxW⟩
  have huniq : ∀ (x j k : Nat) (V W : List Nat), Ws[j]? = some V → x ∈ V → Ws[k]? = some W → x ∈ W → j = k := by
    intro x j k V W hj hxV hk hxW
    obtain ⟨hj', ej⟩ := List.getElem?_eq_some_iff.1 hj
    obtain ⟨hk', ek⟩ := List.getElem?_eq_some_iff.1 hk
    rcases Nat.lt_trichotomy j k with h | h | h
    · have := List.pairwise_iff_getElem.1 h3 j k hj' hk' h x (by rw [ej]; exact hxV)
      rw [ek] at this; exact absurd hxW this
    · exact h
    · have := List.pairwise_iff_getElem.1 h3 k j hk' hj' h x (by rw [ek]; exact hxW)
      rw [ej] at this; exact absurd hxV this
  let lab : Nat → Nat := fun x => if h : x < N then Classical.choose (hex x h) else 0
  have hlab : ∀ x, x < N → ∃ W, Ws[lab x]? = some W ∧ x ∈ W := by
    intro x hx
    have : lab x = Classical.choose (hex x hx) := dif_pos hx
    rw [this]
    exact Classical.choose_spec (hex x hx)
  have hl2 : ∀ (x k : Nat) (W : List Nat), x < N → Ws[k]? = some W → x ∈ W → lab x = k := by
    intro x k W hx hk hxW
    obtain ⟨V, hV, hxV⟩ := hlab x hx
    exact huniq x _ _ V W hV hxV hk hxW
  refine ⟨lab, hlab, hl2, fun x hx => ?_, fun k hk => ?_⟩
  · obtain ⟨V, hV, hxV⟩ := hlab x hx
    exact hl2 (f x) _ V (into x hx) hV ((h1 V (List.mem_of_getElem? hV)).2.2 x hxV).2.2
  · obtain ⟨hne, _, hall⟩ := h1 Ws[k] (List.getElem_mem hk)
    obtain ⟨y, hy⟩ := List.exists_mem_of_ne_nil _ hne
    exact ⟨y, (hall y hy).1, hl2 y k _ (hall y hy).1 (List.getElem?_eq_getElem hk) hy⟩
theorem ct_but {p q : Nat → Bool} {z : Nat} : ∀ {n : Nat}, (∀ m, m < n → p m = true → m ≠ z → q m = true) → countTo p n ≤ countTo q n + 1
  | 0, _ => by simp [countTo]
  | n + 1, h => by
    have ih := ct_but (n := n) (fun m hm => h m (by omega))
    cases hp : p n with
    | false =>
      rw [countTo_no hp]
      have := ct_ge q (m := n) (n := n + 1) (by omega)
      omega
    | true =>
      rw [countTo_yes hp]
      by_cases e : n = z
      · have := ct_sub (p := p) (q := q) (n := n) (fun m hm hpm => h m (by omega) hpm (by omega))
        have := ct_ge q (m := n) (n := n + 1) (by omega)
        omega
      · rw [countTo_yes (h n (by omega) hp e)]
        omega
/-- As many colors as there are more things than ties. -/
theorem ties (W : Nat) (a b : Nat → Nat) (kept : Nat → Bool) : ∀ n, ∃ c : Nat → Nat, (∀ k, c (c k) = c k) ∧ (∀ e, e < n → kept e = true → c (a e) = c (b e)) ∧ W ≤ countTo (fun k => c k == k) W + countTo kept n := by
  intro n
  induction n with
  | zero =>
    refine ⟨id, fun _ => rfl, fun e h => by omega, ?_⟩
    have : ∀ m, countTo (fun k => id k == k) m = m := by
      intro m
      induction m with
      | zero => rfl
      | succ m ih => rw [countTo_yes (by simp), ih]
    rw [this]
    omega
  | succ n ih =>
    obtain ⟨c, h1, h2, h3⟩ := ih
    cases hk : kept n with
    | false =>
      refine ⟨c, h1, fun e he hke => ?_, by rw [countTo_no hk]; exact h3⟩
      rcases Nat.decEq e n with h | h
      · exact h2 e (by omega) hke
      · subst h; rw [hk] at hke; cases hke
    | true =>
      by_cases hab : c (a n) = c (b n)
      · refine ⟨c, h1, fun e he hke => ?_, by rw [countTo_yes hk]; omega⟩
        rcases Nat.decEq e n with h | h
        · exact h2 e (by omega) hke
        · subst h; exact hab
      · refine ⟨fun k => if c k = c (b n) then c (a n) else c k, fun k => ?_, fun e he hke => ?_, ?_⟩
        · by_cases e : c k = c (b n)
          · simp only [e, if_true, h1, if_neg hab]
          · simp only [e, if_false, h1]
        · rcases Nat.decEq e n with h | h
          · simp only [h2 e (by omega) hke]
          · subst h
            simp only [if_true, if_neg hab]
        · rw [countTo_yes hk]
          have := ct_but (p := fun k => c k == k) (q := fun k => (if c k = c (b n) then c (a n) else c k) == k) (z := c (b n)) (n := W) (fun m _ hp hz => by
            simp only [beq_iff_eq] at hp ⊢
            rw [if_neg (by rw [hp]; exact hz), hp])
          simp only [] at this ⊢
          omega
theorem two_colors {W n : Nat} {a b : Nat → Nat} {kept : Nat → Bool} (h : countTo kept n + 2 ≤ W) : ∃ c : Nat → Nat, (∀ e, e < n → kept e = true → c (a e) = c (b e)) ∧ ∃ x y, x < W ∧ y < W ∧ c x ≠ c y := by
  obtain ⟨c, h1, h2, h3⟩ := ties W a b kept n
  refine ⟨c, h2, ?_⟩
  rcases Classical.em (∃ x y, x < W ∧ y < W ∧ c x ≠ c y) with e | e
  · exact e
  · have := ct_le_one (p := fun k => c k == k) (n := W) (fun i j hi hj hp hq => by
      simp only [beq_iff_eq] at hp hq
      rcases Nat.decEq i j with e2 | e2
      · exact absurd ⟨i, j, hi, hj, by rw [hp, hq]; exact e2⟩ e
      · exact e2)
    omega
def prevN (n v : Nat) : Nat := (v + n - 1) % n
theorem prevN_lt {n v : Nat} (h : v < n) : prevN n v < n := Nat.mod_lt _ (by omega)
theorem prevN_pos {n v : Nat} (h : v < n) (h0 : 0 < v) : prevN n v = v - 1 := by
  unfold prevN
  rw [show v + n - 1 = (v - 1) + n by omega, Nat.add_mod_right, Nat.mod_eq_of_lt (by omega)]
theorem head_prev {n v : Nat} (h : v < n) : headN n (2 * prevN n v) = v := by
  unfold headN
  rw [if_pos (by omega), show 2 * prevN n v / 2 = prevN n v by omega]
  rcases Nat.eq_zero_or_pos v with h0 | h0
  · subst h0
    unfold prevN
    rw [Nat.zero_add, Nat.mod_eq_of_lt (show n - 1 < n by omega), show n - 1 + 1 = n by omega, Nat.mod_self]
  · rw [prevN_pos h h0, show v - 1 + 1 = v by omega, Nat.mod_eq_of_lt h]
theorem head_odd {n v : Nat} : headN n (2 * v + 1) = v := by unfold headN; rw [if_neg (by omega)]; omega
theorem along_f (n v : Nat) : alongN n v false = 2 * prevN n v + 1 := by unfold alongN prevN; simp
theorem along_t (n v : Nat) : alongN n v true = 2 * v := by unfold alongN; simp
theorem dwnP {L : List Lt} {i : Nat} (hp : isP (la L i) = true) : dwn L (i + 1) = !dwn L i := by
  have h : pN L (i + 1) = pN L i + 1 := countTo_yes hp
  unfold dwn
  rw [h, Bool.eq_iff_iff]
  simp
  omega
theorem dwnC {L : List Lt} {i : Nat} (hp : isP (la L i) = false) : dwn L (i + 1) = dwn L i := by
  have h : pN L (i + 1) = pN L i := countTo_no hp
  unfold dwn
  rw [h]
theorem kinds_count {L : List Lt} {K : Int} (g : Good K L) : pN L L.length + cN L L.length = L.length := by
  have h := ct_sum (p := fun i => isP (la L i)) (q := fun i => isC (la L i)) (r := fun _ => true) (n := L.length) (fun m hm => by
    rcases g.kinds m hm with h | h <;> simp [h]) (fun m hm => by
    rintro ⟨h1, h2⟩
    rw [isP_isC h1] at h2; cases h2)
  have h2 : ∀ m, countTo (fun _ => true) m = m := by
    intro m
    induction m with
    | zero => rfl
    | succ m ih => rw [countTo_yes rfl, ih]
  rw [h2] at h
  exact h.symm
section
variable {K : Int} {L : List Lt}
/-- A color of darts that steps keep: what is known of it if the edges' two darts have one color. -/
structure Col (L : List Lt) (X : Nat → Nat) : Prop where
  step : ∀ d, d < dartsN L → X (leftF L (axL L) d) = X d
theorem Good.cr_col (g : Good K L) {X : Nat → Nat} (hX : Col L X) {i : Nat} (hc : isC (la L i) = true) :
    let s := ((la L i).over == ((la L i).sign == 1))
    X (2 * prevN L.length i) = X (alongN L.length (othN L i) s) ∧ X (2 * i + 1) = X (alongN L.length (othN L i) (!s)) := by
  have hi := isC_lt hc
  have hp := prevN_lt hi
  have hd1 : 2 * prevN L.length i < 2 * L.length := by omega
  have hd2 : 2 * i + 1 < 2 * L.length := by omega
  have e1 := g.left_cross hd1 (by rw [head_prev hi]; exact hc)
  have e2 := g.left_cross hd2 (by rw [head_odd]; exact hc)
  rw [head_prev hi] at e1
  rw [head_odd] at e2
  have k1 := hX.step _ (show 2 * prevN L.length i < dartsN L by unfold dartsN; omega)
  have k2 := hX.step _ (show 2 * i + 1 < dartsN L by unfold dartsN; omega)
  rw [e1] at k1
  rw [e2] at k2
  have t1 : (2 * prevN L.length i % 2 == 0) = true := by simp
  have t2 : ((2 * i + 1) % 2 == 0) = false := by simp
  rw [t1] at k1
  rw [t2] at k2
  refine ⟨?_, ?_⟩
  · rw [← k1]; congr 2; simp
  · rw [← k2]; congr 2; simp
theorem Good.pos_of_cross (g : Good K L) {i : Nat} (hc : isC (la L i) = true) : 0 < i := by
  rcases Nat.eq_zero_or_pos i with h | h
  · subst h; rw [isP_isC g.first] at hc; cases hc
  · exact h
/-- The four edges at a crossing. -/
theorem Good.four (g : Good K L) {X : Nat → Nat} (hX : Col L X) {i : Nat} (hc : isC (la L i) = true) :
    (X (2 * (i - 1)) = X (2 * othN L i) ∧ X (2 * i + 1) = X (2 * (othN L i - 1) + 1) ∧ X (2 * (othN L i - 1)) = X (2 * (i - 1) + 1) ∧ X (2 * othN L i + 1) = X (2 * i)) ∨
    (X (2 * (i - 1)) = X (2 * (othN L i - 1) + 1) ∧ X (2 * i + 1) = X (2 * othN L i) ∧ X (2 * (othN L i - 1)) = X (2 * i) ∧ X (2 * othN L i + 1) = X (2 * (i - 1) + 1)) := by
  obtain ⟨h1, h2, h3, h4, h5, _⟩ := g.other hc
  have a := g.cr_col hX hc
  have b := g.cr_col hX h2
  rw [g.oth_oth hc] at b
  have p1 := prevN_pos (isC_lt hc) (g.pos_of_cross hc)
  have p2 := prevN_pos (isC_lt h2) (g.pos_of_cross h2)
  have hs : ((la L (othN L i)).over == ((la L (othN L i)).sign == 1)) = !((la L i).over == ((la L i).sign == 1)) := by
    rw [h5]
    revert h4
    cases (la L (othN L i)).over <;> cases (la L i).over <;> cases ((la L i).sign == 1) <;> simp
  simp only [hs] at b
  cases hq : ((la L i).over == ((la L i).sign == 1)) with
  | true =>
    simp only [hq, Bool.not_true, Bool.not_false, along_f, along_t, p1, p2] at a b
    exact .inl ⟨a.1, a.2, b.1, b.2⟩
  | false =>
    simp only [hq, Bool.not_true, Bool.not_false, along_f, along_t, p1, p2] at a b
    exact .inr ⟨a.1, a.2, b.1, b.2⟩
theorem Good.fine (g : Good K L) {X : Nat → Nat} (hX : Col L X) (hk : ∀ e, e < L.length → nwB L (e + 1) = false → X (2 * e) = X (2 * e + 1)) : ∀ e, e < L.length → X (2 * e) = X (2 * e + 1) := by
  have key : ∀ t e, e < L.length → L.length - e = t → X (2 * e) = X (2 * e + 1) := by
    intro t
    induction t using Nat.strongRecOn with
    | ind t ih =>
      intro e he ht
      cases hn : nwB L (e + 1) with
      | false => exact hk e he hn
      | true =>
        unfold nwB at hn
        simp only [Bool.and_eq_true, allTo_iff] at hn
        obtain ⟨hc, hno⟩ := hn
        obtain ⟨h1, h2, h3, _, _, _⟩ := g.other hc
        have hi := isC_lt hc
        have hj := isC_lt h2
        have hlt : e + 1 < othN L (e + 1) := by
          rcases Nat.lt_trichotomy (othN L (e + 1)) (e + 1) with h | h | h
          · have := hno _ h
            rw [h2, h3] at this
            simp at this
          · exact absurd h h1
          · exact h
        have f1 := ih (L.length - (e + 1)) (by omega) (e + 1) hi rfl
        have f2 := ih (L.length - othN L (e + 1)) (by omega) (othN L (e + 1)) hj rfl
        have f3 := ih (L.length - (othN L (e + 1) - 1)) (by omega) (othN L (e + 1) - 1) (by omega) rfl
        have f := g.four hX hc
        rw [show e + 1 - 1 = e by omega] at f
        rcases f with ⟨a, b, c, d⟩ | ⟨a, b, c, d⟩
        · rw [a, f2, d, f1, b, ← f3, c]
        · rw [a, ← f3, c, f1, b, f2, d]
  exact fun e he => key _ e he rfl
def upE (L : List Lt) (v : Nat) : Nat := if dwn L v then prevN L.length v else v
def loE (L : List Lt) (v : Nat) : Nat := if dwn L v then v else prevN L.length v
section
variable {X : Nat → Nat}
theorem Good.p1 (g : Good K L) (hX : Col L X) (hf : ∀ e, e < L.length → X (2 * e) = X (2 * e + 1)) {v : Nat} (hp : isP (la L v) = true) : X (2 * L.length + 2 * atN L v) = X (2 * upE L v) := by
  have hv := isP_lt hp
  have hpv := prevN_lt hv
  cases hd : dwn L v with
  | true =>
    have e := g.left_pass (d := 2 * prevN L.length v) (by omega) (by rw [head_prev hv]; exact hp)
    rw [head_prev hv, hd, if_pos (by simp)] at e
    have := hX.step (2 * prevN L.length v) (by unfold dartsN; omega)
    rw [e] at this
    rw [this]; unfold upE; rw [hd, if_pos rfl]
  | false =>
    have e := g.left_pass (d := 2 * v + 1) (by omega) (by rw [head_odd]; exact hp)
    rw [head_odd, hd, if_pos (by simp)] at e
    have := hX.step (2 * v + 1) (by unfold dartsN; omega)
    rw [e] at this
    rw [this, ← hf v hv]; unfold upE; rw [hd]; simp
theorem Good.p2 (g : Good K L) (hX : Col L X) (hf : ∀ e, e < L.length → X (2 * e) = X (2 * e + 1)) {v : Nat} (hp : isP (la L v) = true) : X (2 * L.length + 2 * ((atN L v + (axL L).length - 1) % (axL L).length) + 1) = X (2 * loE L v) := by
  have hv := isP_lt hp
  have hpv := prevN_lt hv
  cases hd : dwn L v with
  | true =>
    have e := g.left_pass (d := 2 * v + 1) (by omega) (by rw [head_odd]; exact hp)
    rw [head_odd, hd, if_neg (by simp)] at e
    have := hX.step (2 * v + 1) (by unfold dartsN; omega)
    rw [e] at this
    rw [this, ← hf v hv]; unfold loE; rw [hd]; simp
  | false =>
    have e := g.left_pass (d := 2 * prevN L.length v) (by omega) (by rw [head_prev hv]; exact hp)
    rw [head_prev hv, hd, if_neg (by simp)] at e
    have := hX.step (2 * prevN L.length v) (by unfold dartsN; omega)
    rw [e] at this
    rw [this]; unfold loE; rw [hd]; simp
theorem Good.p3 (_g : Good K L) (hX : Col L X) (hf : ∀ e, e < L.length → X (2 * e) = X (2 * e + 1)) {j : Nat} (hj : j < (axL L).length) : X (2 * L.length + 2 * j) = X (2 * upE L (xat (axL L) ((j + 1) % (axL L).length))) := by
  have ht := ax_pass (L := L) (j := (j + 1) % (axL L).length) (Nat.mod_lt _ (by omega))
  have hs := hX.step (2 * L.length + 2 * j) (by unfold dartsN; omega)
  rw [← hs]
  unfold leftF
  rw [if_pos (by omega), if_pos (by omega), show (2 * L.length + 2 * j - 2 * L.length) / 2 = j by omega]
  generalize xat (axL L) ((j + 1) % (axL L).length) = v at ht ⊢
  unfold upE
  cases hd : dwn L v with
  | true =>
    rw [if_pos rfl, Bool.not_true, along_f, ← hf _ (prevN_lt ht.2)]
  | false =>
    rw [Bool.not_false, along_t]; simp
theorem Good.p4 (_g : Good K L) (hX : Col L X) (hf : ∀ e, e < L.length → X (2 * e) = X (2 * e + 1)) {j : Nat} (hj : j < (axL L).length) : X (2 * L.length + 2 * j + 1) = X (2 * loE L (xat (axL L) j)) := by
  have ht := ax_pass (L := L) (j := j) hj
  have hs := hX.step (2 * L.length + 2 * j + 1) (by unfold dartsN; omega)
  rw [← hs]
  unfold leftF
  rw [if_pos (by omega), if_neg (by omega), show (2 * L.length + 2 * j + 1 - 2 * L.length) / 2 = j by omega]
  generalize xat (axL L) j = v at ht ⊢
  unfold loE
  cases hd : dwn L v with
  | true => rw [if_pos rfl, along_t]
  | false => rw [along_f, ← hf _ (prevN_lt ht.2)]; simp
theorem Good.xat_at (g : Good K L) {v : Nat} (hp : isP (la L v) = true) : xat (axL L) (atN L v) = v := by unfold xat; rw [g.at_ hp]; rfl
theorem Good.up_const (g : Good K L) (hX : Col L X) (hf : ∀ e, e < L.length → X (2 * e) = X (2 * e + 1)) : ∀ j, j < (axL L).length → X (2 * upE L (xat (axL L) j)) = X (2 * upE L (xat (axL L) 0)) := by
  intro j
  induction j with
  | zero => intro _; rfl
  | succ j ih =>
    intro hj
    rw [← ih (by omega)]
    have h1 := g.p1 hX hf (ax_pass (L := L) (j := j) (by omega)).1
    have h3 := g.p3 hX hf (j := j) (by omega)
    rw [g.at_xat (by omega)] at h1
    rw [Nat.mod_eq_of_lt hj] at h3
    rw [← h1, ← h3]
theorem Good.lo_const (g : Good K L) (hX : Col L X) (hf : ∀ e, e < L.length → X (2 * e) = X (2 * e + 1)) : ∀ j, j < (axL L).length → X (2 * loE L (xat (axL L) j)) = X (2 * loE L (xat (axL L) 0)) := by
  intro j
  induction j with
  | zero => intro _; rfl
  | succ j ih =>
    intro hj
    rw [← ih (by omega)]
    have h1 := g.p2 hX hf (ax_pass (L := L) (j := j + 1) hj).1
    have h3 := g.p4 hX hf (j := j) (by omega)
    rw [g.at_xat hj, show j + 1 + (axL L).length - 1 = j + (axL L).length by omega, Nat.add_mod_right, Nat.mod_eq_of_lt (show j < (axL L).length by omega)] at h1
    rw [← h1, ← h3]
theorem Good.edges (g : Good K L) (hX : Col L X) (hf : ∀ e, e < L.length → X (2 * e) = X (2 * e + 1)) : ∀ e, e < L.length → X (2 * e) = if dwn L (e + 1) then X (2 * upE L (xat (axL L) 0)) else X (2 * loE L (xat (axL L) 0)) := by
  have hu : ∀ v, isP (la L v) = true → X (2 * upE L v) = X (2 * upE L (xat (axL L) 0)) := fun v hv => by
    have := g.up_const hX hf (atN L v) (g.at_lt hv)
    rwa [g.xat_at hv] at this
  have hl : ∀ v, isP (la L v) = true → X (2 * loE L v) = X (2 * loE L (xat (axL L) 0)) := fun v hv => by
    have := g.lo_const hX hf (atN L v) (g.at_lt hv)
    rwa [g.xat_at hv] at this
  have pass : ∀ e, isP (la L e) = true → X (2 * e) = if dwn L (e + 1) then X (2 * upE L (xat (axL L) 0)) else X (2 * loE L (xat (axL L) 0)) := by
    intro e he
    rw [dwnP he]
    have h1 := hu e he
    have h2 := hl e he
    unfold upE at h1
    unfold loE at h2
    cases hd : dwn L e with
    | true =>
      rw [hd, if_pos rfl] at h2
      rw [h2]; rfl
    | false =>
      rw [hd] at h1
      simp only [Bool.false_eq_true, if_false] at h1
      rw [h1]; rfl
  intro e
  induction e with
  | zero => intro _; exact pass 0 g.first
  | succ e ih =>
    intro he
    rcases g.kinds (e + 1) he with hp | hc
    · exact pass (e + 1) hp
    · have hnp : isP (la L (e + 1)) = false := by
        cases hq : isP (la L (e + 1)) with
        | false => rfl
        | true => rw [isP_isC hq] at hc; cases hc
      rw [dwnC hnp, ← ih (by omega)]
      have f := g.four hX hc
      have hj := isC_lt (g.other hc).2.1
      rw [show e + 1 - 1 = e by omega] at f
      have f0 := hf e (by omega)
      have f1 := hf (e + 1) he
      have f2 := hf (othN L (e + 1)) hj
      have f3 := hf (othN L (e + 1) - 1) (by omega)
      rcases f with ⟨a, b, c, d⟩ | ⟨a, b, c, d⟩
      · rw [a, f2, d]
      · rw [a, ← f3, c]
theorem Good.crossed (g : Good K L) (hX : Col L X) (hf : ∀ e, e < L.length → X (2 * e) = X (2 * e + 1)) {i : Nat} (hc : isC (la L i) = true) : X (2 * i) = X (2 * othN L i) := by
  have f := g.four hX hc
  have hi := isC_lt hc
  have hj := isC_lt (g.other hc).2.1
  have f1 := hf i hi
  have f2 := hf (othN L i) hj
  rcases f with ⟨a, b, c, d⟩ | ⟨a, b, c, d⟩
  · rw [← d, f2]
  · rw [f1, b]
end
/-- The colors of a flat code. -/
theorem Good.color (g : Good K L) (h : flatB L = true) : ∃ X : Nat → Nat, Col L X ∧ (∀ e, e < L.length → X (2 * e) = X (2 * e + 1)) ∧ ∃ x y, x < dartsN L ∧ y < dartsN L ∧ X x ≠ X y := by
  have hle : dartsN L = 2 * L.length + 2 * (axL L).length := rfl
  obtain ⟨lab, l1, l2, l3, l4⟩ := walks_lab g.inj (fun x hx => g.into hx) (Ws := walksL L) rfl
  unfold flatB at h
  simp only [beq_iff_eq] at h
  have hkc := kinds_count g
  have hnw : dN L L.length = cN L L.length / 2 := dN_is (by unfold crossP; simp only [Bool.and_eq_true, decide_eq_true_eq, allTo_iff]; exact ⟨g.ceven, g.cross⟩)
  have hkept : countTo (fun e => !nwB L (e + 1)) L.length + dN L L.length = L.length := by
    have hs : ∀ n, countTo (fun e => !nwB L (e + 1)) n + dN L (n + 1) = n := by
      intro n
      induction n with
      | zero =>
        show 0 + countTo (nwB L) 1 = 0
        rw [countTo_no (by unfold nwB; rw [isP_isC g.first]; rfl)]; rfl
      | succ n ih =>
        unfold dN at ih ⊢
        cases hq : nwB L (n + 1) with
        | true => rw [countTo_no (p := fun e => !nwB L (e + 1)) (by rw [hq]; rfl), countTo_yes hq]; omega
        | false => rw [countTo_yes (p := fun e => !nwB L (e + 1)) (by rw [hq]; rfl), countTo_no hq]; omega
    have := hs L.length
    unfold dN at this ⊢
    rw [countTo_no (by unfold nwB; rw [la_ge (Nat.le_refl _)]; rfl)] at this
    exact this
  have hce := g.ceven
  obtain ⟨c, c1, x, y, hx, hy, hne⟩ := two_colors (W := (walksL L).length) (n := L.length) (a := fun e => lab (2 * e)) (b := fun e => lab (2 * e + 1)) (kept := fun e => !nwB L (e + 1)) (by omega)
  have hX : Col L (fun d => c (lab d)) := ⟨fun d hd => by show c _ = c _; rw [l3 d hd]⟩
  refine ⟨fun d => c (lab d), hX, ?_, ?_⟩
  · exact g.fine hX (fun e he hn => c1 e he (by rw [hn]; rfl))
  · obtain ⟨u, hu, rfl⟩ := l4 x hx
    obtain ⟨v, hv, rfl⟩ := l4 y hy
    exact ⟨u, v, hu, hv, hne⟩
/-- Both visits of a crossing lie on one side. -/
theorem Good.sides (g : Good K L) (h : flatB L = true) {i : Nat} (hc : isC (la L i) = true) : dwn L (othN L i) = dwn L i := by
  obtain ⟨X, hX, hf, x, y, hx, hy, hne⟩ := g.color h
  have he := g.edges hX hf
  have hm := g.m_pos
  have hab : X (2 * upE L (xat (axL L) 0)) ≠ X (2 * loE L (xat (axL L) 0)) := by
    intro e
    have all : ∀ d, d < dartsN L → X d = X (2 * upE L (xat (axL L) 0)) := by
      intro d hd
      unfold dartsN at hd
      have hs : ∀ t, t < L.length → X (2 * t) = X (2 * upE L (xat (axL L) 0)) := fun t ht => by
        rw [he t ht]; split
        · rfl
        · exact e.symm
      rcases Nat.lt_or_ge d (2 * L.length) with hl | hl
      · rcases Nat.mod_two_eq_zero_or_one d with h2 | h2
        · have := hs (d / 2) (by omega)
          rwa [show 2 * (d / 2) = d by omega] at this
        · have := hs (d / 2) (by omega)
          rw [hf _ (by omega)] at this
          rwa [show 2 * (d / 2) + 1 = d by omega] at this
      · rcases Nat.mod_two_eq_zero_or_one d with h2 | h2
        · have := g.p3 hX hf (j := (d - 2 * L.length) / 2) (by omega)
          rw [show 2 * L.length + 2 * ((d - 2 * L.length) / 2) = d by omega] at this
          rw [this]
          exact g.up_const hX hf _ (Nat.mod_lt _ hm)
        · have := g.p4 hX hf (j := (d - 2 * L.length) / 2) (by omega)
          rw [show 2 * L.length + 2 * ((d - 2 * L.length) / 2) + 1 = d by omega] at this
          rw [this, e]
          exact g.lo_const hX hf _ (by omega)
    exact hne (by rw [all x hx, all y hy])
  obtain ⟨h1, h2, _⟩ := g.other hc
  have e1 := he i (isC_lt hc)
  have e2 := he (othN L i) (isC_lt h2)
  have e3 := g.crossed hX hf hc
  have np : ∀ v, isC (la L v) = true → isP (la L v) = false := fun v hv => by
    cases hq : isP (la L v) with
    | false => rfl
    | true => rw [isP_isC hq] at hv; cases hv
  rw [dwnC (np _ hc)] at e1
  rw [dwnC (np _ h2)] at e2
  rw [e1, e2] at e3
  cases ha : dwn L (othN L i) <;> cases hb : dwn L i <;> rw [ha, hb] at e3 <;> simp at e3 ⊢
  · exact hab e3
  · exact hab e3.symm
end
end

section
/-- As many boxes as pigeons. -/
theorem pigeon : ∀ {a b : Nat} {f : Nat → Nat}, (∀ i, i < a → f i < b) → (∀ i j, i < a → j < a → f i = f j → i = j) → a ≤ b
  | 0, _, _, _, _ => Nat.zero_le _
  | a + 1, b, f, hb, hi => by
    have h0 : 0 < b := Nat.lt_of_le_of_lt (Nat.zero_le _) (hb a (by omega))
    have := pigeon (a := a) (b := b - 1) (f := fun i => if f i < f a then f i else f i - 1) (fun i h => by
      have h1 := hb i (by omega)
      have h2 := hb a (by omega)
      have h3 : f i ≠ f a := fun e => by have := hi i a (by omega) (by omega) e; omega
      show (if f i < f a then f i else f i - 1) < b - 1
      split <;> omega) (fun i j h1 h2 e => by
      have h3 : f i ≠ f a := fun e => by have := hi i a (by omega) (by omega) e; omega
      have h4 : f j ≠ f a := fun e => by have := hi j a (by omega) (by omega) e; omega
      refine hi i j (by omega) (by omega) ?_
      change (if f i < f a then f i else f i - 1) = (if f j < f a then f j else f j - 1) at e
      split at e <;> split at e <;> omega)
    omega
theorem walk1_const {α : Type} {f : Nat → Nat} {N : Nat} {h : Nat → α} (into : ∀ x, x < N → f x < N) (hh : ∀ x, x < N → h (f x) = h x) : ∀ (k : Nat) (s : List Bool) (x : Nat), x < N → ∀ y ∈ (walk1 f k s x).1, h y = h x
  | 0, _, _, _, y, hy => by simp [walk1] at hy
  | k + 1, s, x, hx, y, hy => by
    unfold walk1 at hy
    by_cases hs : sat s x = true
    · rw [if_pos hs] at hy; cases hy
    · rw [if_neg hs] at hy
      rcases List.mem_cons.1 hy with rfl | hy
      · rfl
      · rw [walk1_const into hh k _ (f x) (into x hx) y hy, hh x hx]
theorem walks_const {α : Type} {f : Nat → Nat} {N : Nat} {h : Nat → α} (into : ∀ x, x < N → f x < N) (hh : ∀ x, x < N → h (f x) = h x) : ∀ (ds : List Nat) (s : List Bool), (∀ d ∈ ds, d < N) → ∀ W ∈ walksF f ds s, ∀ x ∈ W, ∀ y ∈ W, h x = h y
  | [], _, _, W, hW => by cases hW
  | d :: ds, s, hds, W, hW => by
    unfold walksF at hW
    by_cases hs : sat s d = true
    · rw [if_pos hs] at hW
      exact walks_const into hh ds s (fun d' hd' => hds d' (List.mem_cons_of_mem _ hd')) W hW
    · rw [if_neg hs] at hW
      rcases List.mem_cons.1 hW with rfl | hW
      · intro x hx y hy
        rw [walk1_const into hh _ _ d (hds d (List.mem_cons_self ..)) x hx, walk1_const into hh _ _ d (hds d (List.mem_cons_self ..)) y hy]
      · exact walks_const into hh ds _ (fun d' hd' => hds d' (List.mem_cons_of_mem _ hd')) W hW
/-- No more walks behind than ahead. -/
theorem walks_le {f g : Nat → Nat} {N M : Nat} (finj : ∀ x y, x < N → y < N → f x = f y → x = y) (finto : ∀ x, x < N → f x < N) (ginj : ∀ x y, x < M → y < M → g x = g y → x = y) (ginto : ∀ x, x < M → g x < M)
    (φ : Nat → Nat) (hφ : ∀ x, x < N → φ x < M) (hsur : ∀ y, y < M → ∃ x, x < N ∧ φ x = y) (hstep : ∀ x, x < N → φ (f x) = g (φ x) ∨ g (φ (f x)) = φ x) :
    (walksF g (List.range M) (List.replicate M false)).length ≤ (walksF f (List.range N) (List.replicate N false)).length := by
  obtain ⟨lf, a1, a2, a3, a4⟩ := walks_lab finj finto rfl
  obtain ⟨lg, b1, b2, b3, b4⟩ := walks_lab ginj ginto rfl
  have hc : ∀ x, x < N → lg (φ (f x)) = lg (φ x) := by
    intro x hx
    rcases hstep x hx with e | e
    · rw [e]; exact b3 _ (hφ x hx)
    · rw [← e]; exact (b3 _ (hφ _ (finto x hx))).symm
  have hex : ∀ k, k < (walksF g (List.range M) (List.replicate M false)).length → ∃ x, x < N ∧ lg (φ x) = k := by
    intro k hk
    obtain ⟨y, hy, e⟩ := b4 k hk
    obtain ⟨x, hx, rfl⟩ := hsur y hy
    exact ⟨x, hx, e⟩
  let c : Nat → Nat := fun k => if h : k < (walksF g (List.range M) (List.replicate M false)).length then Classical.choose (hex k h) else 0
  have hcs : ∀ k, k < (walksF g (List.range M) (List.replicate M false)).length → c k < N ∧ lg (φ (c k)) = k := by
    intro k hk
    have : c k = Classical.choose (hex k hk) := dif_pos hk
    rw [this]
    exact Classical.choose_spec (hex k hk)
  refine pigeon (f := fun k => lf (c k)) (fun k hk => ?_) (fun j k hj hk e => ?_)
  · obtain ⟨W, hW, _⟩ := a1 (c k) (hcs k hk).1
    exact (List.getElem?_eq_some_iff.1 hW).1
  · obtain ⟨W, hW, hxW⟩ := a1 (c j) (hcs j hj).1
    obtain ⟨V, hV, hyV⟩ := a1 (c k) (hcs k hk).1
    change lf (c j) = lf (c k) at e
    rw [e] at hW
    rw [hW] at hV
    injection hV with hV
    subst hV
    have := walks_const (h := fun x => lg (φ x)) finto hc (List.range N) (List.replicate N false) (by simp) W (List.mem_of_getElem? hW) (c j) hxW (c k) hyV
    change lg (φ (c j)) = lg (φ (c k)) at this
    rw [(hcs j hj).2, (hcs k hk).2] at this
    exact this
end

section
def rotT {α : Type} (L : List α) (i : Nat) : List α := L.drop i ++ L.take i
def swLt (x : Lt) : Lt := if isC x then { x with over := !x.over, sign := -x.sign } else x
def mrLt (K : Int) (L : List Lt) (x : Lt) : Lt := if isP x then { x with gate := K - x.gate, rank := (gN L x.gate L.length : Int) + 1 - x.rank } else { x with sign := -x.sign }
def toLt (x : Lt) : Lt := if isC x then { x with over := !x.over } else x
theorem sw_c {x : Lt} (h : isC x = true) : swLt x = { x with over := !x.over, sign := -x.sign } := by unfold swLt; rw [if_pos h]
theorem sw_n {x : Lt} (h : isC x = false) : swLt x = x := by unfold swLt; rw [if_neg (by rw [h]; simp)]
theorem mr_p {K : Int} {L : List Lt} {x : Lt} (h : isP x = true) : mrLt K L x = { x with gate := K - x.gate, rank := (gN L x.gate L.length : Int) + 1 - x.rank } := by unfold mrLt; rw [if_pos h]
theorem mr_n {K : Int} {L : List Lt} {x : Lt} (h : isP x = false) : mrLt K L x = { x with sign := -x.sign } := by unfold mrLt; rw [if_neg (by rw [h]; simp)]
theorem to_c {x : Lt} (h : isC x = true) : toLt x = { x with over := !x.over } := by unfold toLt; rw [if_pos h]
theorem to_n {x : Lt} (h : isC x = false) : toLt x = x := by unfold toLt; rw [if_neg (by rw [h]; simp)]
/-- The first pass that goes down, by the directions d. -/
def settleI (L : List Lt) (d : Nat → Bool) : Nat := ((List.range L.length).find? (fun i => isP (la L i) && d i)).getD 0
def settleL (L : List Lt) (d : Nat → Bool) : List Lt := rotT L (settleI L d)
def swapL (L : List Lt) : List Lt := L.map swLt
def mirrorL (K : Int) (L : List Lt) : List Lt := L.map (mrLt K L)
def turnL (L : List Lt) : List Lt := settleL (L.map toLt) (fun i => !dwn L i)
def backL (L : List Lt) : List Lt := settleL L.reverse (fun i => !dwn L (L.length - 1 - i))
theorem settle_none {L : List Lt} {d : Nat → Bool} (h : ∀ i, i < L.length → (isP (la L i) && d i) = false) : settleL L d = L := by
  unfold settleL settleI
  rw [List.find?_eq_none.2 (by intro i hi; rw [h i (List.mem_range.1 hi)]; simp)]
  simp [rotT]
theorem range_find {p : Nat → Bool} : ∀ {n k : Nat}, (∀ i, i < k → p i = false) → p k = true → k < n → (List.range n).find? p = some k := by
  intro n
  induction n with
  | zero => intro k _ _ h; omega
  | succ n ih =>
    intro k h1 h2 h3
    rw [List.range_succ, List.find?_append]
    by_cases e : k < n
    · rw [ih h1 h2 e]; rfl
    · have : k = n := by omega
      subst this
      rw [List.find?_eq_none.2 (by intro i hi; rw [h1 i (List.mem_range.1 hi)]; simp)]
      simp [h2]
theorem settle_at {L : List Lt} {d : Nat → Bool} {k : Nat} (h : ∀ i, i < k → (isP (la L i) && d i) = false) (hk : (isP (la L k) && d k) = true) (hl : k < L.length) : settleL L d = rotT L k := by
  unfold settleL settleI
  rw [range_find h hk hl]; rfl
end

section
/-- The names met among the first m letters, in order. -/
def metT (L : List Lt) : Nat → List Int
  | 0 => []
  | m + 1 => if isC (la L m) = true ∧ (la L m).id ∉ metT L m then metT L m ++ [(la L m).id] else metT L m
def posI (M : List Int) (d : Int) : Nat := M.findIdx (· == d)
def rnLt (M : List Int) (x : Lt) : Lt := if isC x then { x with id := (posI M x.id : Int) + 1 } else x
def metL (L : List Lt) : List Int := metT L L.length
def renL (L : List Lt) : List Lt := L.map (rnLt (metL L))
theorem rn_c {M : List Int} {x : Lt} (h : isC x = true) : rnLt M x = { x with id := (posI M x.id : Int) + 1 } := by unfold rnLt; rw [if_pos h]
theorem rn_n {M : List Int} {x : Lt} (h : isC x = false) : rnLt M x = x := by unfold rnLt; rw [if_neg (by rw [h]; simp)]
theorem met_new {L : List Lt} {m : Nat} (h : isC (la L m) = true) (h2 : (la L m).id ∉ metT L m) : metT L (m + 1) = metT L m ++ [(la L m).id] := by
  show (if _ then _ else _) = _
  rw [if_pos ⟨h, h2⟩]
theorem met_old {L : List Lt} {m : Nat} (h2 : (la L m).id ∈ metT L m) : metT L (m + 1) = metT L m := by
  show (if _ then _ else _) = _
  rw [if_neg (fun h => h.2 h2)]
theorem met_no {L : List Lt} {m : Nat} (h : isC (la L m) = false) : metT L (m + 1) = metT L m := by
  show (if _ then _ else _) = _
  rw [if_neg (by rw [h]; simp)]
theorem met_len (L : List Lt) : ∀ m, (metT L m).length ≤ m
  | 0 => Nat.le_refl _
  | m + 1 => by
    have := met_len L m
    unfold metT
    split
    · simp; omega
    · omega
theorem met_grow (L : List Lt) (m : Nat) : ∃ r, metT L (m + 1) = metT L m ++ r := by
  rw [metT]
  split
  · exact ⟨_, rfl⟩
  · exact ⟨[], by simp⟩
theorem met_pre (L : List Lt) (m : Nat) : ∀ n, m ≤ n → ∃ r, metT L n = metT L m ++ r := by
  intro n
  induction n with
  | zero => intro h; rw [show m = 0 by omega]; exact ⟨[], by simp⟩
  | succ n ih =>
    intro h
    by_cases e : m = n + 1
    · subst e; exact ⟨[], by simp⟩
    · obtain ⟨r, hr⟩ := ih (by omega)
      obtain ⟨s, hs⟩ := met_grow L n
      exact ⟨r ++ s, by rw [hs, hr, List.append_assoc]⟩
theorem met_at {L : List Lt} {m : Nat} (h : isC (la L m) = true) : (la L m).id ∈ metT L (m + 1) := by
  by_cases e : (la L m).id ∈ metT L m
  · rw [met_old e]; exact e
  · rw [met_new h e]; simp
theorem met_nodup (L : List Lt) : ∀ m, (metT L m).Nodup
  | 0 => List.nodup_nil
  | m + 1 => by
    rw [metT]
    split
    · rename_i h
      rw [List.nodup_append]
      exact ⟨met_nodup L m, List.nodup_cons.2 ⟨by simp, List.nodup_nil⟩, fun a ha b hb => by simp at hb; subst hb; intro e; subst e; exact h.2 ha⟩
    · exact met_nodup L m
theorem met_mem {L : List Lt} {d : Int} : ∀ {m : Nat}, d ∈ metT L m ↔ ∃ i, i < m ∧ isC (la L i) = true ∧ (la L i).id = d := by
  intro m
  induction m with
  | zero => simp [metT]
  | succ m ih =>
    constructor
    · intro h
      cases hc : isC (la L m) with
      | false => rw [met_no hc] at h; obtain ⟨i, h1, h2⟩ := ih.1 h; exact ⟨i, by omega, h2⟩
      | true =>
        by_cases e : (la L m).id ∈ metT L m
        · rw [met_old e] at h; obtain ⟨i, h1, h2⟩ := ih.1 h; exact ⟨i, by omega, h2⟩
        · rw [met_new hc e] at h
          rcases List.mem_append.1 h with h | h
          · obtain ⟨i, h1, h2⟩ := ih.1 h; exact ⟨i, by omega, h2⟩
          · simp at h; exact ⟨m, by omega, hc, h.symm⟩
    · rintro ⟨i, h1, h2, h3⟩
      by_cases e : i = m
      · subst e; rw [← h3]; exact met_at h2
      · obtain ⟨r, hr⟩ := met_grow L m
        rw [hr]
        exact List.mem_append.2 (.inl (ih.2 ⟨i, by omega, h2, h3⟩))
theorem pos_app {M R : List Int} {d : Int} (h : d ∈ M) : posI (M ++ R) d = posI M d := by
  unfold posI
  rw [List.findIdx_append, if_pos (List.findIdx_lt_length.2 ⟨d, h, by simp⟩)]
theorem pos_lt {M : List Int} {d : Int} (h : d ∈ M) : posI M d < M.length := List.findIdx_lt_length.2 ⟨d, h, by simp⟩
theorem pos_new {M : List Int} {d : Int} (h : d ∉ M) : posI (M ++ [d]) d = M.length := by
  unfold posI
  rw [List.findIdx_append, if_neg (by rw [List.findIdx_lt_length]; rintro ⟨x, hx, e⟩; simp at e; subst e; exact h hx)]
  simp
theorem pos_get {M : List Int} {d : Int} (h : d ∈ M) : M[posI M d]? = some d := by
  have hl := pos_lt h
  rw [List.getElem?_eq_getElem hl]
  have := List.findIdx_getElem (p := (· == d)) (xs := M) (w := hl)
  simp at this
  exact congrArg some this
theorem pos_at {M : List Int} {d : Int} {j : Nat} (hn : M.Nodup) (h : M[j]? = some d) : posI M d = j := by
  have hm : d ∈ M := List.mem_of_getElem? h
  exact (List.getElem?_inj (pos_lt hm) hn).1 ((pos_get hm).trans h.symm)
/-- At the letter m the final name stands in what has been met. -/
theorem rn_at {L : List Lt} {m : Nat} (hm : m < L.length) (h : isC (la L m) = true) : rnLt (metL L) (la L m) = { la L m with id := (posI (metT L (m + 1)) (la L m).id : Int) + 1 } := by
  rw [rn_c h]
  obtain ⟨r, hr⟩ := met_pre L (m + 1) L.length (by omega)
  unfold metL
  rw [hr, pos_app (met_at h)]
theorem ren_len (L : List Lt) : (renL L).length = L.length := by simp [renL]
/-- One letter before another one. -/
def lsB (a b : Lt) : Bool :=
  if a.kind ≠ b.kind then decide (a.kind < b.kind) else if a.gate ≠ b.gate then decide (a.gate < b.gate) else if a.rank ≠ b.rank then decide (a.rank < b.rank)
  else if a.id ≠ b.id then decide (a.id < b.id) else if a.over ≠ b.over then b.over else decide (a.sign < b.sign)
/-- One list of letters before another one. -/
def bfB : List Lt → List Lt → Bool
  | a :: A, b :: B => if a = b then bfB A B else lsB a b
  | _, _ => false
theorem bf_at {A B : List Lt} {i : Nat} (hA : i < A.length) (hB : i < B.length) (h : ∀ j, j < i → la A j = la B j) (hi : la A i ≠ la B i) : bfB A B = lsB (la A i) (la B i) := by
  induction i generalizing A B with
  | zero =>
    obtain _ | ⟨a, A⟩ := A
    · simp at hA
    · obtain _ | ⟨b, B⟩ := B
      · simp at hB
      · have hi' : a ≠ b := hi
        show (if a = b then _ else _) = _
        rw [if_neg hi']; rfl
  | succ i ih =>
    obtain _ | ⟨a, A⟩ := A
    · simp at hA
    · obtain _ | ⟨b, B⟩ := B
      · simp at hB
      · have h0 : a = b := h 0 (by omega)
        show (if a = b then _ else _) = _
        rw [if_pos h0]
        exact ih (by simpa using hA) (by simpa using hB) (fun j hj => h (j + 1) (by omega)) hi
theorem bf_no {A B : List Lt} (h : ∀ j, j < A.length → la A j = la B j) : bfB A B = false := by
  induction A generalizing B with
  | nil => rfl
  | cons a A ih =>
    obtain _ | ⟨b, B⟩ := B
    · rfl
    · have h0 : a = b := h 0 (by simp)
      show (if a = b then _ else _) = _
      rw [if_pos h0]
      exact ih (fun j hj => h (j + 1) (by simpa using hj))
theorem bf_refl (A : List Lt) : bfB A A = false := bf_no fun _ _ => rfl
/-- The candidates of one list of letters: the renamed codes that begin at its passes that go down. -/
def cndT (L : List Lt) : Nat → List (List Lt)
  | 0 => []
  | m + 1 => if isP (la L m) && dwn L m then cndT L m ++ [renL (rotT L m)] else cndT L m
theorem cnd_yes {L : List Lt} {m : Nat} (h : (isP (la L m) && dwn L m) = true) : cndT L (m + 1) = cndT L m ++ [renL (rotT L m)] := by
  show (if _ then _ else _) = _
  rw [if_pos h]
theorem cnd_no {L : List Lt} {m : Nat} (h : (isP (la L m) && dwn L m) = false) : cndT L (m + 1) = cndT L m := by
  show (if _ then _ else _) = _
  rw [if_neg (by rw [h]; simp)]
def pick (best : List Lt) (y : List Lt) : List Lt := if bfB y best then y else best
def normL (L : List Lt) : List Lt := (cndT L L.length ++ cndT (backL L) (backL L).length).foldl pick (renL L)
end

section
/-- The dart that arrives at a letter; the letter that is next. -/
def arrN (n i : Nat) (f : Bool) : Nat := if f then 2 * ((i + n - 1) % n) else 2 * i + 1
def nxN (n i : Nat) (f : Bool) : Nat := if f then (i + 1) % n else (i + n - 1) % n
theorem mod_up {n i : Nat} (hi : i < n) : (i + 1 = n ∧ (i + 1) % n = 0) ∨ (i + 1 < n ∧ (i + 1) % n = i + 1) := by
  rcases Nat.lt_or_ge (i + 1) n with h | h
  · exact .inr ⟨h, Nat.mod_eq_of_lt h⟩
  · left; have : i + 1 = n := by omega
    exact ⟨this, by rw [this, Nat.mod_self]⟩
theorem mod_dn {n i : Nat} (hi : i < n) : (i = 0 ∧ (i + n - 1) % n = n - 1) ∨ (0 < i ∧ (i + n - 1) % n = i - 1) := by
  rcases Nat.eq_zero_or_pos i with h0 | h0
  · left; subst h0; exact ⟨rfl, by rw [Nat.zero_add, Nat.mod_eq_of_lt (by omega)]⟩
  · right
    refine ⟨h0, ?_⟩
    rw [show i + n - 1 = (i - 1) + n by omega, Nat.add_mod_right, Nat.mod_eq_of_lt (by omega)]
theorem nx_lt {n i : Nat} {f : Bool} (hi : i < n) : nxN n i f < n := by
  unfold nxN
  split <;> exact Nat.mod_lt _ (by omega)
theorem nx_nx {n i : Nat} {f : Bool} (hi : i < n) : nxN n (nxN n i f) (!f) = i := by
  have a := mod_up hi
  have b := mod_dn hi
  cases f
  · show ((i + n - 1) % n + 1) % n = i
    have c := mod_up (n := n) (i := (i + n - 1) % n) (Nat.mod_lt _ (by omega))
    omega
  · show ((i + 1) % n + n - 1) % n = i
    have c := mod_dn (n := n) (i := (i + 1) % n) (Nat.mod_lt _ (by omega))
    omega
theorem arr_lt {n i : Nat} {f : Bool} (hi : i < n) : arrN n i f < 2 * n := by
  have b := mod_dn hi
  unfold arrN
  split <;> omega
theorem arr_head {n i : Nat} {f : Bool} (hi : i < n) : headN n (arrN n i f) = i := by
  have b := mod_dn hi
  cases f
  · show (if (2 * i + 1) % 2 = 0 then ((2 * i + 1) / 2 + 1) % n else (2 * i + 1) / 2) = i
    rw [if_neg (by omega)]; omega
  · show (if 2 * ((i + n - 1) % n) % 2 = 0 then (2 * ((i + n - 1) % n) / 2 + 1) % n else 2 * ((i + n - 1) % n) / 2) = i
    rw [if_pos (by omega), show 2 * ((i + n - 1) % n) / 2 = (i + n - 1) % n by omega]
    have c := mod_up (n := n) (i := (i + n - 1) % n) (Nat.mod_lt _ (by omega))
    omega
theorem arr_mod {n i : Nat} {f : Bool} : (arrN n i f % 2 == 0) = f := by
  cases f
  · show ((2 * i + 1) % 2 == 0) = false
    rw [show (2 * i + 1) % 2 = 1 by omega]; rfl
  · show (2 * ((i + n - 1) % n) % 2 == 0) = true
    rw [show 2 * ((i + n - 1) % n) % 2 = 0 by omega]; rfl
theorem arr_eq {n d : Nat} (hd : d < 2 * n) : d = arrN n (headN n d) (d % 2 == 0) := by
  refine headN_inj hd (arr_lt (headN_lt hd)) ?_ (arr_head (headN_lt hd)).symm
  have : (arrN n (headN n d) (d % 2 == 0) % 2 == 0) = (d % 2 == 0) := arr_mod
  rcases Nat.mod_two_eq_zero_or_one d with a | a <;> rw [a] at this ⊢ <;> simp at this <;> simp <;> omega
theorem along_arr {n i : Nat} {f : Bool} (hi : i < n) : alongN n i f = arrN n (nxN n i f) f := by
  have a := mod_up hi
  have b := mod_dn hi
  cases f
  · rfl
  · show 2 * i = 2 * (((i + 1) % n + n - 1) % n)
    have c := mod_dn (n := n) (i := (i + 1) % n) (Nat.mod_lt _ (by omega))
    omega
theorem arr_along {n i : Nat} {f : Bool} (hi : i < n) : arrN n i f = alongN n (nxN n i (!f)) f := by
  rw [along_arr (nx_lt hi)]
  have := nx_nx (f := !f) hi
  rw [Bool.not_not] at this
  rw [this]
def samB (l : Lt) : Bool := l.over == (l.sign == 1)
section
variable {K K' : Int} {L M : List Lt}
theorem Good.l_cross (g : Good K L) {i : Nat} {f : Bool} (hc : isC (la L i) = true) : leftF L (axL L) (arrN L.length i f) = alongN L.length (othN L i) (f == samB (la L i)) := by
  have hi := isC_lt hc
  rw [g.left_cross (arr_lt hi) (by rw [arr_head hi]; exact hc), arr_head hi, arr_mod]; rfl
theorem Good.l_pass (g : Good K L) {i : Nat} {f : Bool} (hp : isP (la L i) = true) : leftF L (axL L) (arrN L.length i f) = if dwn L i == f then 2 * L.length + 2 * atN L i else 2 * L.length + 2 * ((atN L i + (axL L).length - 1) % (axL L).length) + 1 := by
  have hi := isP_lt hp
  rw [g.left_pass (arr_lt hi) (by rw [arr_head hi]; exact hp), arr_head hi, arr_mod]
theorem l_right {j : Nat} : leftF L (axL L) (2 * L.length + 2 * j) = alongN L.length (xat (axL L) ((j + 1) % (axL L).length)) (!dwn L (xat (axL L) ((j + 1) % (axL L).length))) := by
  unfold leftF
  rw [if_pos (by omega), if_pos (by omega), show (2 * L.length + 2 * j - 2 * L.length) / 2 = j by omega]
theorem l_left {j : Nat} : leftF L (axL L) (2 * L.length + 2 * j + 1) = alongN L.length (xat (axL L) j) (dwn L (xat (axL L) j)) := by
  unfold leftF
  rw [if_pos (by omega), if_neg (by omega), show (2 * L.length + 2 * j + 1 - 2 * L.length) / 2 = j by omega]
/-- An image of a code. -/
structure Img (L M : List Lt) (rev dfl sfl : Bool) (a : Nat → Nat) (τ σ : Nat → Nat) : Prop where
  len : M.length = L.length
  lt : ∀ i, i < L.length → τ i < L.length
  gt : ∀ i, i < L.length → σ i < L.length
  st : ∀ i, i < L.length → σ (τ i) = i
  ts : ∀ i, i < L.length → τ (σ i) = i
  nxt : ∀ i f, i < L.length → τ (nxN L.length i f) = nxN L.length (τ i) (f != rev)
  isP : ∀ i, i < L.length → isP (la M (τ i)) = isP (la L i)
  isC : ∀ i, i < L.length → isC (la M (τ i)) = isC (la L i)
  oth : ∀ i, Go.Proofs.YtkjcmppaapbabaaDoor.isC (la L i) = true → othN M (τ i) = τ (othN L i)
  sam : ∀ i, Go.Proofs.YtkjcmppaapbabaaDoor.isC (la L i) = true → samB (la M (τ i)) = (samB (la L i) != sfl)
  at_ : ∀ i, Go.Proofs.YtkjcmppaapbabaaDoor.isP (la L i) = true → atN M (τ i) = a (atN L i)
  dwn : ∀ i, Go.Proofs.YtkjcmppaapbabaaDoor.isP (la L i) = true → dwn M (τ i) = (dwn L i != dfl)
  pN : pN M L.length = pN L L.length
variable {rev dfl sfl : Bool} {a : Nat → Nat} {τ σ : Nat → Nat}
theorem Img.axl (h : Img L M rev dfl sfl a τ σ) : (axL M).length = (axL L).length := by rw [axL_len, axL_len, h.len, h.pN]
theorem Img.xat (h : Img L M rev dfl sfl a τ σ) (g : Good K L) (g' : Good K' M) {j : Nat} (hj : j < (axL L).length) : Go.Proofs.YtkjcmppaapbabaaDoor.xat (axL M) (a j) = τ (Go.Proofs.YtkjcmppaapbabaaDoor.xat (axL L) j) := by
  have hp := ax_pass hj
  have e := g.at_xat hj
  have e2 := h.at_ _ hp.1
  rw [e] at e2
  have e3 := g'.at_ (i := τ (Go.Proofs.YtkjcmppaapbabaaDoor.xat (axL L) j)) (by rw [h.isP _ hp.2]; exact hp.1)
  rw [e2] at e3
  conv => lhs; unfold Go.Proofs.YtkjcmppaapbabaaDoor.xat
  rw [e3]; rfl
theorem Img.symm (h : Img L M rev dfl sfl a τ σ) (g : Good K L) {b : Nat → Nat} (hb : ∀ j, j < (axL L).length → b (a j) = j) : Img M L rev dfl sfl b σ τ := by
  have hl := h.len
  refine ⟨h.len.symm, ?_, ?_, ?_, ?_, ?_, ?_, ?_, ?_, ?_, ?_, ?_, by rw [h.len, h.pN]⟩
  · rw [hl]; exact h.gt
  · rw [hl]; exact h.lt
  · rw [hl]; exact h.ts
  · rw [hl]; exact h.st
  · rw [hl]
    intro i f hi
    have := h.nxt (σ i) (f != rev) (h.gt i hi)
    rw [h.ts i hi, show ((f != rev) != rev) = f by cases f <;> cases rev <;> rfl] at this
    rw [← this, h.st _ (nx_lt (h.gt i hi))]
  · rw [hl]
    intro i hi
    rw [← h.isP _ (h.gt i hi), h.ts i hi]
  · rw [hl]
    intro i hi
    rw [← h.isC _ (h.gt i hi), h.ts i hi]
  · intro i hc
    have hi : i < L.length := by rw [← hl]; exact isC_lt hc
    have hc2 : Go.Proofs.YtkjcmppaapbabaaDoor.isC (la L (σ i)) = true := by rw [← h.isC _ (h.gt i hi), h.ts i hi]; exact hc
    have := h.oth _ hc2
    rw [h.ts i hi] at this
    rw [this, h.st]
    exact isC_lt (g.other hc2).2.1
  · intro i hc
    have hi : i < L.length := by rw [← hl]; exact isC_lt hc
    have hc2 : Go.Proofs.YtkjcmppaapbabaaDoor.isC (la L (σ i)) = true := by rw [← h.isC _ (h.gt i hi), h.ts i hi]; exact hc
    have := h.sam _ hc2
    rw [h.ts i hi] at this
    rw [this]
    cases samB (la L (σ i)) <;> cases sfl <;> rfl
  · intro i hp
    have hi : i < L.length := by rw [← hl]; exact isP_lt hp
    have hp2 : Go.Proofs.YtkjcmppaapbabaaDoor.isP (la L (σ i)) = true := by rw [← h.isP _ (h.gt i hi), h.ts i hi]; exact hp
    have := h.at_ _ hp2
    rw [h.ts i hi] at this
    rw [this, hb _ (g.at_lt hp2)]
  · intro i hp
    have hi : i < L.length := by rw [← hl]; exact isP_lt hp
    have hp2 : Go.Proofs.YtkjcmppaapbabaaDoor.isP (la L (σ i)) = true := by rw [← h.isP _ (h.gt i hi), h.ts i hi]; exact hp
    have := h.dwn _ hp2
    rw [h.ts i hi] at this
    rw [this]
    cases Go.Proofs.YtkjcmppaapbabaaDoor.dwn L (σ i) <;> cases dfl <;> rfl
/-- The same way round. -/
theorem Img.le_same (h : Img L M rev rev false id τ σ) (g : Good K L) (g' : Good K' M) : (walksL M).length ≤ (walksL L).length := by
  have hax := h.axl
  have hdn : dartsN M = dartsN L := by unfold dartsN; rw [h.len, hax]
  refine walks_le g.inj (fun _ h => g.into h) g'.inj (fun _ h => g'.into h) (fun x => if x < 2 * L.length then arrN L.length (τ (headN L.length x)) ((x % 2 == 0) != rev) else x) ?_ ?_ ?_
  · intro x hx
    show (if _ then _ else _) < _
    rw [hdn]
    split
    · have := arr_lt (f := (x % 2 == 0) != rev) (h.lt _ (headN_lt (by assumption : x < 2 * L.length)))
      unfold dartsN; omega
    · exact hx
  · intro y hy
    rw [hdn] at hy
    rcases Nat.lt_or_ge y (2 * L.length) with hl | hl
    · have hh := headN_lt hl
      refine ⟨arrN L.length (σ (headN L.length y)) ((y % 2 == 0) != rev), ?_, ?_⟩
      · have := arr_lt (f := (y % 2 == 0) != rev) (h.gt _ hh)
        unfold dartsN; omega
      · show (if _ then _ else _) = _
        rw [if_pos (arr_lt (h.gt _ hh)), arr_head (h.gt _ hh), h.ts _ hh, arr_mod, show (((y % 2 == 0) != rev) != rev) = (y % 2 == 0) by cases (y % 2 == 0) <;> cases rev <;> rfl]
        exact (arr_eq hl).symm
    · exact ⟨y, hy, by show (if _ then _ else _) = _; rw [if_neg (by omega)]⟩
  · intro x hx
    left
    have him : ∀ i f, i < L.length → (if alongN L.length i f < 2 * L.length then arrN L.length (τ (headN L.length (alongN L.length i f))) ((alongN L.length i f % 2 == 0) != rev) else alongN L.length i f) = alongN L.length (τ i) (f != rev) := by
      intro i f hi
      rw [if_pos (alongN_lt hi), along_arr hi, arr_head (nx_lt hi), arr_mod, h.nxt i f hi, along_arr (h.lt i hi)]
    show (if leftF L (axL L) x < _ then _ else _) = leftF M (axL M) (if x < _ then _ else _)
    rcases Nat.lt_or_ge x (2 * L.length) with hl | hl
    · rw [if_pos hl]
      have hh := headN_lt hl
      obtain ⟨i, hi⟩ : ∃ i, headN L.length x = i := ⟨_, rfl⟩
      obtain ⟨f, hf⟩ : ∃ f, (x % 2 == 0) = f := ⟨_, rfl⟩
      have hxe := arr_eq hl
      rw [hi, hf] at hxe
      rw [hi] at hh
      rw [hi, hf, hxe]
      rcases g.kinds i hh with hp | hc
      · rw [g.l_pass hp]
        have hp' : Go.Proofs.YtkjcmppaapbabaaDoor.isP (la M (τ i)) = true := by rw [h.isP i hh]; exact hp
        have hl' := g'.l_pass (f := f != rev) hp'
        rw [h.len, hax] at hl'
        rw [hl', h.at_ i hp, h.dwn i hp, show ((Go.Proofs.YtkjcmppaapbabaaDoor.dwn L i != rev) == (f != rev)) = (Go.Proofs.YtkjcmppaapbabaaDoor.dwn L i == f) by cases Go.Proofs.YtkjcmppaapbabaaDoor.dwn L i <;> cases f <;> cases rev <;> rfl]
        split
        · rw [if_neg (by omega)]; rfl
        · rw [if_neg (by omega)]; rfl
      · rw [g.l_cross hc, him _ _ (isC_lt (g.other hc).2.1)]
        have hc' : Go.Proofs.YtkjcmppaapbabaaDoor.isC (la M (τ i)) = true := by rw [h.isC i hh]; exact hc
        have hl' := g'.l_cross (f := f != rev) hc'
        rw [h.len] at hl'
        rw [hl', h.oth i hc, h.sam i hc]
        congr 1
        cases samB (la L i) <;> cases f <;> cases rev <;> rfl
    · rw [if_neg (show ¬ x < 2 * L.length by omega)]
      unfold dartsN at hx
      have hm := g.m_pos
      rcases Nat.mod_two_eq_zero_or_one x with hx2 | hx2
      · obtain ⟨j, rfl⟩ : ∃ j, x = 2 * L.length + 2 * j := ⟨(x - 2 * L.length) / 2, by omega⟩
        have hj : (j + 1) % (axL L).length < (axL L).length := Nat.mod_lt _ hm
        have hp := ax_pass hj
        rw [l_right, him _ _ hp.2]
        have hr := l_right (L := M) (j := j)
        rw [h.len, hax] at hr
        rw [hr]
        have hxx := h.xat g g' hj
        rw [show (id ((j + 1) % (axL L).length) : Nat) = (j + 1) % (axL L).length from rfl] at hxx
        rw [hxx, h.dwn _ hp.1]
        congr 1
        cases Go.Proofs.YtkjcmppaapbabaaDoor.dwn L (Go.Proofs.YtkjcmppaapbabaaDoor.xat (axL L) ((j + 1) % (axL L).length)) <;> cases rev <;> rfl
      · obtain ⟨j, rfl⟩ : ∃ j, x = 2 * L.length + 2 * j + 1 := ⟨(x - 2 * L.length) / 2, by omega⟩
        have hj : j < (axL L).length := by omega
        have hp := ax_pass hj
        rw [l_left, him _ _ hp.2]
        have hr := l_left (L := M) (j := j)
        rw [h.len] at hr
        rw [hr]
        have hxx := h.xat g g' hj
        rw [show (id j : Nat) = j from rfl] at hxx
        rw [hxx, h.dwn _ hp.1]
/-- The other way round. -/
theorem Img.le_other (h : Img L M false dfl true a τ σ) (g : Good K L) (g' : Good K' M)
    (ha : (dfl = true ∧ ∀ j, a j = j) ∨ (dfl = false ∧ ∀ j, a j = (axL L).length - 1 - j)) : (walksL M).length ≤ (walksL L).length := by
  have hax := h.axl
  have hm := g.m_pos
  have hdn : dartsN M = dartsN L := by unfold dartsN; rw [h.len, hax]
  let q : Nat → Nat := fun x => 2 * L.length + (if dfl then (if x % 2 = 0 then (x - 2 * L.length) + 1 else (x - 2 * L.length) - 1) else 2 * (((axL L).length + (axL L).length - 2 - (x - 2 * L.length) / 2) % (axL L).length) + x % 2)
  have qR : ∀ j, q (2 * L.length + 2 * j) = 2 * L.length + (if dfl then 2 * j + 1 else 2 * (((axL L).length + (axL L).length - 2 - j) % (axL L).length)) := by
    intro j
    have e1 : (2 * L.length + 2 * j) % 2 = 0 := by omega
    have e2 : 2 * L.length + 2 * j - 2 * L.length = 2 * j := by omega
    have e3 : (2 * j) / 2 = j := by omega
    show 2 * L.length + (if dfl = true then (if (2 * L.length + 2 * j) % 2 = 0 then (2 * L.length + 2 * j - 2 * L.length) + 1 else (2 * L.length + 2 * j - 2 * L.length) - 1) else 2 * (((axL L).length + (axL L).length - 2 - (2 * L.length + 2 * j - 2 * L.length) / 2) % (axL L).length) + (2 * L.length + 2 * j) % 2) = _
    rw [e1, e2, e3, if_pos rfl]; rfl
  have qL : ∀ j, q (2 * L.length + 2 * j + 1) = 2 * L.length + (if dfl then 2 * j else 2 * (((axL L).length + (axL L).length - 2 - j) % (axL L).length) + 1) := by
    intro j
    have e1 : (2 * L.length + 2 * j + 1) % 2 = 1 := by omega
    have e2 : 2 * L.length + 2 * j + 1 - 2 * L.length = 2 * j + 1 := by omega
    have e3 : (2 * j + 1) / 2 = j := by omega
    show 2 * L.length + (if dfl = true then (if (2 * L.length + 2 * j + 1) % 2 = 0 then (2 * L.length + 2 * j + 1 - 2 * L.length) + 1 else (2 * L.length + 2 * j + 1 - 2 * L.length) - 1) else 2 * (((axL L).length + (axL L).length - 2 - (2 * L.length + 2 * j + 1 - 2 * L.length) / 2) % (axL L).length) + (2 * L.length + 2 * j + 1) % 2) = _
    rw [e1, e2, e3, if_neg (show ¬ (1 : Nat) = 0 by omega), show 2 * j + 1 - 1 = 2 * j by omega]
  have pm : ∀ j, j < (axL L).length → (j + 1 = (axL L).length ∧ ((axL L).length + (axL L).length - 2 - j) % (axL L).length = (axL L).length - 1) ∨ (j + 1 < (axL L).length ∧ ((axL L).length + (axL L).length - 2 - j) % (axL L).length = (axL L).length - 2 - j) := by
    intro j hj
    rcases Nat.lt_or_ge (j + 1) (axL L).length with hl | hl
    · right
      exact ⟨hl, by rw [show (axL L).length + (axL L).length - 2 - j = ((axL L).length - 2 - j) + (axL L).length by omega, Nat.add_mod_right, Nat.mod_eq_of_lt (by omega)]⟩
    · left
      exact ⟨by omega, by rw [Nat.mod_eq_of_lt (by omega)]; omega⟩
  refine walks_le g.inj (fun _ h => g.into h) g'.inj (fun _ h => g'.into h) (fun x => if x < 2 * L.length then alongN L.length (τ (headN L.length x)) (!(x % 2 == 0)) else q x) ?_ ?_ ?_
  · intro x hx
    show (if _ then _ else _) < _
    rw [hdn]
    split
    · have := alongN_lt (b := !(x % 2 == 0)) (h.lt _ (headN_lt (by assumption : x < 2 * L.length)))
      unfold dartsN; omega
    · unfold dartsN at hx ⊢
      rcases Nat.mod_two_eq_zero_or_one x with hx2 | hx2
      · obtain ⟨j, rfl⟩ : ∃ j, x = 2 * L.length + 2 * j := ⟨(x - 2 * L.length) / 2, by omega⟩
        rw [qR]
        have := pm j (by omega)
        split <;> omega
      · obtain ⟨j, rfl⟩ : ∃ j, x = 2 * L.length + 2 * j + 1 := ⟨(x - 2 * L.length) / 2, by omega⟩
        rw [qL]
        have := pm j (by omega)
        split <;> omega
  · intro y hy
    rw [hdn] at hy
    rcases Nat.lt_or_ge y (2 * L.length) with hl | hl
    · have hh := headN_lt hl
      -- y arrives at v forwards f: it is the image of the dart that arrives at σ (the letter behind) the other way
      refine ⟨arrN L.length (σ (nxN L.length (headN L.length y) (!(y % 2 == 0)))) (!(y % 2 == 0)), ?_, ?_⟩
      · have := arr_lt (f := !(y % 2 == 0)) (h.gt _ (nx_lt (f := !(y % 2 == 0)) hh))
        unfold dartsN; omega
      · show (if _ then _ else _) = _
        rw [if_pos (arr_lt (h.gt _ (nx_lt hh))), arr_head (h.gt _ (nx_lt hh)), h.ts _ (nx_lt hh), arr_mod, Bool.not_not, ← arr_along hh]
        exact (arr_eq hl).symm
    · unfold dartsN at hy
      rcases ha with ⟨rfl, _⟩ | ⟨rfl, _⟩
      · rcases Nat.mod_two_eq_zero_or_one y with hx2 | hx2
        · obtain ⟨j, rfl⟩ : ∃ j, y = 2 * L.length + 2 * j := ⟨(y - 2 * L.length) / 2, by omega⟩
          refine ⟨2 * L.length + 2 * j + 1, by unfold dartsN; omega, ?_⟩
          show (if _ then _ else _) = _
          rw [if_neg (by omega), qL, if_pos rfl]
        · obtain ⟨j, rfl⟩ : ∃ j, y = 2 * L.length + 2 * j + 1 := ⟨(y - 2 * L.length) / 2, by omega⟩
          refine ⟨2 * L.length + 2 * j, by unfold dartsN; omega, ?_⟩
          show (if _ then _ else _) = _
          rw [if_neg (by omega), qR, if_pos rfl]; omega
      · rcases Nat.mod_two_eq_zero_or_one y with hx2 | hx2
        · obtain ⟨j, rfl⟩ : ∃ j, y = 2 * L.length + 2 * j := ⟨(y - 2 * L.length) / 2, by omega⟩
          have p1 := pm j (by omega)
          have p2 := pm _ (Nat.mod_lt ((axL L).length + (axL L).length - 2 - j) hm)
          refine ⟨2 * L.length + 2 * (((axL L).length + (axL L).length - 2 - j) % (axL L).length), by unfold dartsN; omega, ?_⟩
          show (if _ then _ else _) = _
          rw [if_neg (by omega), qR, if_neg (by simp)]; omega
        · obtain ⟨j, rfl⟩ : ∃ j, y = 2 * L.length + 2 * j + 1 := ⟨(y - 2 * L.length) / 2, by omega⟩
          have p1 := pm j (by omega)
          have p2 := pm _ (Nat.mod_lt ((axL L).length + (axL L).length - 2 - j) hm)
          refine ⟨2 * L.length + 2 * (((axL L).length + (axL L).length - 2 - j) % (axL L).length) + 1, by unfold dartsN; omega, ?_⟩
          show (if _ then _ else _) = _
          rw [if_neg (by omega), qL, if_neg (by simp)]; omega
  · intro x hx
    right
    have him : ∀ i f, i < L.length → (if alongN L.length i f < 2 * L.length then alongN L.length (τ (headN L.length (alongN L.length i f))) (!(alongN L.length i f % 2 == 0)) else q (alongN L.length i f)) = arrN L.length (τ i) (!f) := by
      intro i f hi
      rw [if_pos (alongN_lt hi), along_arr hi, arr_head (nx_lt hi), arr_mod, h.nxt i f hi, show (f != false) = f by cases f <;> rfl, arr_along (h.lt i hi), Bool.not_not]
    show leftF M (axL M) (if leftF L (axL L) x < _ then _ else _) = (if x < _ then _ else _)
    rcases Nat.lt_or_ge x (2 * L.length) with hl | hl
    · have hh := headN_lt hl
      obtain ⟨i, hi⟩ : ∃ i, headN L.length x = i := ⟨_, rfl⟩
      obtain ⟨f, hf⟩ : ∃ f, (x % 2 == 0) = f := ⟨_, rfl⟩
      have hxe := arr_eq hl
      rw [hi, hf] at hxe
      rw [hi] at hh
      rw [if_pos hl, hi, hf, hxe]
      rcases g.kinds i hh with hp | hc
      · rw [g.l_pass hp]
        have hpl := g.at_lt hp
        have p1 := mod_dn hpl
        have p3 := pm _ hpl
        have hxx := h.xat g g' hpl
        rw [show Go.Proofs.YtkjcmppaapbabaaDoor.xat (axL L) (atN L i) = i by unfold Go.Proofs.YtkjcmppaapbabaaDoor.xat; rw [g.at_ hp]; rfl] at hxx
        have hdd := h.dwn i hp
        have hR := fun j => l_right (L := M) (j := j)
        have hLf := fun j => l_left (L := M) (j := j)
        rw [h.len, hax] at hR
        rw [h.len] at hLf
        by_cases hdf : Go.Proofs.YtkjcmppaapbabaaDoor.dwn L i = f
        · rw [if_pos (show (Go.Proofs.YtkjcmppaapbabaaDoor.dwn L i == f) = true by simp [hdf]), if_neg (by omega), qR]
          rcases ha with ⟨rfl, ha⟩ | ⟨rfl, ha⟩
          · rw [if_pos rfl, show 2 * L.length + (2 * atN L i + 1) = 2 * L.length + 2 * atN L i + 1 by omega, hLf]
            rw [ha] at hxx
            rw [hxx, hdd, hdf]
            cases f <;> rfl
          · rw [if_neg (by simp), hR]
            rw [ha] at hxx
            have e : (((axL L).length + (axL L).length - 2 - atN L i) % (axL L).length + 1) % (axL L).length = (axL L).length - 1 - atN L i := by
              have := mod_up (Nat.mod_lt ((axL L).length + (axL L).length - 2 - atN L i) hm)
              omega
            rw [e, hxx, hdd, hdf]
            cases f <;> rfl
        · rw [if_neg (show ¬ (Go.Proofs.YtkjcmppaapbabaaDoor.dwn L i == f) = true by simpa using hdf), if_neg (by omega), qL]
          have hdf2 : Go.Proofs.YtkjcmppaapbabaaDoor.dwn L i = !f := by revert hdf; cases Go.Proofs.YtkjcmppaapbabaaDoor.dwn L i <;> cases f <;> simp
          rcases ha with ⟨rfl, ha⟩ | ⟨rfl, ha⟩
          · rw [if_pos rfl, hR]
            have e : ((atN L i + (axL L).length - 1) % (axL L).length + 1) % (axL L).length = atN L i := by
              have := mod_up (Nat.mod_lt (atN L i + (axL L).length - 1) hm)
              omega
            rw [ha] at hxx
            rw [e, hxx, hdd, hdf2]
            cases f <;> rfl
          · rw [if_neg (by simp), ← Nat.add_assoc, hLf]
            rw [ha] at hxx
            have e : ((axL L).length + (axL L).length - 2 - (atN L i + (axL L).length - 1) % (axL L).length) % (axL L).length = (axL L).length - 1 - atN L i := by
              have := pm _ (Nat.mod_lt (atN L i + (axL L).length - 1) hm)
              omega
            rw [e, hxx, hdd, hdf2]
            cases f <;> rfl
      · have ho := g.other hc
        rw [g.l_cross hc, him _ _ (isC_lt ho.2.1)]
        have hc' : Go.Proofs.YtkjcmppaapbabaaDoor.isC (la M (τ (othN L i))) = true := by rw [h.isC _ (isC_lt ho.2.1)]; exact ho.2.1
        have hl' := g'.l_cross (f := !(f == samB (la L i))) hc'
        rw [h.len] at hl'
        rw [hl', h.oth _ ho.2.1, h.sam _ ho.2.1, g.oth_oth hc]
        congr 1
        have hs : samB (la L (othN L i)) = !samB (la L i) := by
          unfold samB
          rw [ho.2.2.2.2.1]
          have := ho.2.2.2.1
          revert this
          cases (la L (othN L i)).over <;> cases (la L i).over <;> cases ((la L i).sign == 1) <;> simp
        rw [hs]
        cases samB (la L i) <;> cases f <;> rfl
    · rw [if_neg (show ¬ x < 2 * L.length by omega)]
      unfold dartsN at hx
      rcases Nat.mod_two_eq_zero_or_one x with hx2 | hx2
      · obtain ⟨j, rfl⟩ : ∃ j, x = 2 * L.length + 2 * j := ⟨(x - 2 * L.length) / 2, by omega⟩
        have hj0 : j < (axL L).length := by omega
        have hj : (j + 1) % (axL L).length < (axL L).length := Nat.mod_lt _ hm
        have hp := ax_pass hj
        rw [l_right, him _ _ hp.2, qR]
        have hp' : Go.Proofs.YtkjcmppaapbabaaDoor.isP (la M (τ (Go.Proofs.YtkjcmppaapbabaaDoor.xat (axL L) ((j + 1) % (axL L).length)))) = true := by rw [h.isP _ hp.2]; exact hp.1
        have hl' := g'.l_pass (f := !!Go.Proofs.YtkjcmppaapbabaaDoor.dwn L (Go.Proofs.YtkjcmppaapbabaaDoor.xat (axL L) ((j + 1) % (axL L).length))) hp'
        rw [h.len, hax, h.at_ _ hp.1, h.dwn _ hp.1, g.at_xat hj] at hl'
        rw [hl']
        have p1 := mod_up hj0
        have p2 := mod_dn hj
        have p3 := pm j hj0
        rcases ha with ⟨rfl, ha⟩ | ⟨rfl, ha⟩
        · rw [if_neg (by cases Go.Proofs.YtkjcmppaapbabaaDoor.dwn L (Go.Proofs.YtkjcmppaapbabaaDoor.xat (axL L) ((j + 1) % (axL L).length)) <;> simp), if_pos rfl, ha]
          omega
        · rw [if_pos (by cases Go.Proofs.YtkjcmppaapbabaaDoor.dwn L (Go.Proofs.YtkjcmppaapbabaaDoor.xat (axL L) ((j + 1) % (axL L).length)) <;> simp), if_neg (by simp), ha]
          omega
      · obtain ⟨j, rfl⟩ : ∃ j, x = 2 * L.length + 2 * j + 1 := ⟨(x - 2 * L.length) / 2, by omega⟩
        have hj : j < (axL L).length := by omega
        have hp := ax_pass hj
        rw [l_left, him _ _ hp.2, qL]
        have hp' : Go.Proofs.YtkjcmppaapbabaaDoor.isP (la M (τ (Go.Proofs.YtkjcmppaapbabaaDoor.xat (axL L) j))) = true := by rw [h.isP _ hp.2]; exact hp.1
        have hl' := g'.l_pass (f := !Go.Proofs.YtkjcmppaapbabaaDoor.dwn L (Go.Proofs.YtkjcmppaapbabaaDoor.xat (axL L) j)) hp'
        rw [h.len, hax, h.at_ _ hp.1, h.dwn _ hp.1, g.at_xat hj] at hl'
        rw [hl']
        have p3 := pm j hj
        rcases ha with ⟨rfl, ha⟩ | ⟨rfl, ha⟩
        · rw [if_pos (by cases Go.Proofs.YtkjcmppaapbabaaDoor.dwn L (Go.Proofs.YtkjcmppaapbabaaDoor.xat (axL L) j) <;> simp), if_pos rfl, ha]
        · rw [if_neg (by cases Go.Proofs.YtkjcmppaapbabaaDoor.dwn L (Go.Proofs.YtkjcmppaapbabaaDoor.xat (axL L) j) <;> simp), if_neg (by simp), ha]
          have p4 := mod_dn (n := (axL L).length) (i := (axL L).length - 1 - j) (by omega)
          omega
end
end

section
/-- Two maps below n that undo each other. -/
structure Bij (n : Nat) (τ σ : Nat → Nat) : Prop where
  lt : ∀ i, i < n → τ i < n
  gt : ∀ i, i < n → σ i < n
  st : ∀ i, i < n → σ (τ i) = i
  ts : ∀ i, i < n → τ (σ i) = i
theorem Bij.refl (n : Nat) : Bij n (fun i => i) (fun i => i) := ⟨fun _ h => h, fun _ h => h, fun _ _ => rfl, fun _ _ => rfl⟩
theorem Bij.symm {n : Nat} {τ σ : Nat → Nat} (h : Bij n τ σ) : Bij n σ τ := ⟨h.gt, h.lt, h.ts, h.st⟩
theorem Bij.inj {n : Nat} {τ σ : Nat → Nat} (h : Bij n τ σ) {i j : Nat} (hi : i < n) (hj : j < n) (e : τ i = τ j) : i = j := by
  have := h.st i hi
  rw [e, h.st j hj] at this
  exact this.symm
theorem ct_bij {n : Nat} {τ σ : Nat → Nat} (h : Bij n τ σ) {p q : Nat → Bool} (hq : ∀ i, i < n → q (τ i) = p i) : countTo q n = countTo p n := by
  rw [ct_classes (p := q) (c := σ) (k := n) (fun m hm _ => h.gt m hm), ct_classes (p := p) (c := fun m => m) (k := n) (fun m hm _ => hm)]
  refine sumN_congr fun d hd => ?_
  cases hp : p d with
  | true =>
    rw [ct_one (i := τ d) (h.lt d hd) (by show (q (τ d) && σ (τ d) == d) = true; rw [hq d hd, hp, h.st d hd]; simp) (fun m hm hm2 => by
      have e : σ m = d := by simp at hm2; exact hm2.2
      rw [← e, h.ts m hm]), ct_one (i := d) hd (by simp [hp]) (fun m _ hm2 => by simp at hm2; exact hm2.2)]
  | false =>
    rw [ct_none (fun m hm => by
      show (q m && σ m == d) = false
      by_cases e : σ m = d
      · have : τ d = m := by rw [← e, h.ts m hm]
        rw [← this, hq d hd, hp]; rfl
      · simp [e]), ct_none (fun m _ => by
      show (p m && m == d) = false
      by_cases e : m = d
      · rw [e, hp]; rfl
      · simp [e])]
/-- M is L letter by letter, through F, at the places τ. -/
structure Car (L M : List Lt) (F : Lt → Lt) (τ σ : Nat → Nat) : Prop where
  len : M.length = L.length
  bij : Bij L.length τ σ
  img : ∀ i, i < L.length → la M (τ i) = F (la L i)
  kind : ∀ x, (F x).kind = x.kind
section
variable {K K' : Int} {L M : List Lt} {F : Lt → Lt} {τ σ : Nat → Nat}
theorem Car.isP (h : Car L M F τ σ) {i : Nat} (hi : i < L.length) : isP (la M (τ i)) = isP (la L i) := by
  unfold Go.Proofs.YtkjcmppaapbabaaDoor.isP; rw [h.img i hi, h.kind]
theorem Car.isC (h : Car L M F τ σ) {i : Nat} (hi : i < L.length) : isC (la M (τ i)) = isC (la L i) := by
  unfold Go.Proofs.YtkjcmppaapbabaaDoor.isC; rw [h.img i hi, h.kind]
theorem Car.pN (h : Car L M F τ σ) : pN M L.length = pN L L.length := ct_bij h.bij fun _ hi => h.isP hi
theorem Car.cN (h : Car L M F τ σ) : cN M L.length = cN L L.length := ct_bij h.bij fun _ hi => h.isC hi
/-- What F must keep of the letters of L. -/
structure Keeps (K K' : Int) (L : List Lt) (F : Lt → Lt) : Prop where
  pass : ∀ i, i < L.length → isP (la L i) = true → (F (la L i)).id = (la L i).id ∧ (F (la L i)).sign = (la L i).sign ∧ (F (la L i)).over = (la L i).over ∧ 0 ≤ (F (la L i)).gate ∧ (F (la L i)).gate ≤ K' ∧ 1 ≤ (F (la L i)).rank ∧ (F (la L i)).rank ≤ (gN L (la L i).gate L.length : Int)
  gates : ∀ i j, i < L.length → j < L.length → isP (la L i) = true → isP (la L j) = true → ((F (la L j)).gate = (F (la L i)).gate ↔ (la L j).gate = (la L i).gate)
  ranks : ∀ i j, i < L.length → j < L.length → isP (la L i) = true → isP (la L j) = true → (la L j).gate = (la L i).gate → ((F (la L j)).rank = (F (la L i)).rank ↔ (la L j).rank = (la L i).rank)
  cross : ∀ i, i < L.length → isC (la L i) = true → (F (la L i)).gate = (la L i).gate ∧ (F (la L i)).rank = (la L i).rank ∧ ((F (la L i)).sign = 1 ∨ (F (la L i)).sign = -1) ∧ 1 ≤ (F (la L i)).id ∧ (F (la L i)).id ≤ ((cN L L.length / 2 : Nat) : Int)
  ids : ∀ i j, i < L.length → j < L.length → isC (la L i) = true → isC (la L j) = true → ((F (la L j)).id = (F (la L i)).id ↔ (la L j).id = (la L i).id)
  signs : ∀ i j, i < L.length → j < L.length → isC (la L i) = true → isC (la L j) = true → (la L j).id = (la L i).id → ((F (la L j)).sign = (F (la L i)).sign ↔ (la L j).sign = (la L i).sign)
  overs : ∀ i j, i < L.length → j < L.length → isC (la L i) = true → isC (la L j) = true → (la L j).id = (la L i).id → ((F (la L j)).over = (F (la L i)).over ↔ (la L j).over = (la L i).over)
theorem isP_k {x : Lt} : isP x = true ↔ x.kind = 1 := by unfold isP; simp
theorem isC_k {x : Lt} : isC x = true ↔ x.kind = 2 := by unfold isC; simp
theorem Car.gN (h : Car L M F τ σ) (hk : Keeps K K' L F) {i : Nat} (hi : i < L.length) (hp : Go.Proofs.YtkjcmppaapbabaaDoor.isP (la L i) = true) : gN M (F (la L i)).gate L.length = gN L (la L i).gate L.length := by
  refine ct_bij h.bij fun j hj => ?_
  show (Go.Proofs.YtkjcmppaapbabaaDoor.isP (la M (τ j)) && (la M (τ j)).gate == (F (la L i)).gate) = _
  rw [h.isP hj, h.img j hj]
  cases hpj : Go.Proofs.YtkjcmppaapbabaaDoor.isP (la L j) with
  | false => rfl
  | true =>
    have := hk.gates i j hi hj hp hpj
    show ((F (la L j)).gate == (F (la L i)).gate) = ((la L j).gate == (la L i).gate)
    rw [Bool.eq_iff_iff, beq_iff_eq, beq_iff_eq]
    exact this
theorem Car.letters (h : Car L M F τ σ) (hk : Keeps K K' L F) (hl : lettersR K L = true) : lettersR K' M = true := by
  unfold lettersR at hl ⊢
  rw [allTo_iff] at hl ⊢
  rw [h.len]
  intro m hm
  obtain ⟨i, hi, rfl⟩ : ∃ i, i < L.length ∧ τ i = m := ⟨σ m, h.bij.gt m hm, h.bij.ts m hm⟩
  have h0 := hl i hi
  rw [h.img i hi]
  unfold rlB at h0 ⊢
  rw [h.kind, h.len]
  by_cases e1 : (la L i).kind = 1
  · have hp := isP_k.2 e1
    rw [if_pos e1] at h0 ⊢
    simp only [decide_eq_true_eq] at h0 ⊢
    obtain ⟨a1, a2, a3, a4, a5, a6, a7, a8⟩ := h0
    obtain ⟨b1, b2, b3, b4, b5, b6, b7⟩ := hk.pass i hi hp
    refine ⟨by rw [b1]; exact a1, by rw [b2]; exact a2, by rw [b3]; exact a3, b4, b5, b6, by rw [h.gN hk hi hp]; exact b7, ?_⟩
    rw [← a8]
    refine ct_bij h.bij fun j hj => ?_
    show smB (F (la L i)) (la M (τ j)) = smB (la L i) (la L j)
    rw [h.img j hj]
    unfold smB
    rw [h.kind, h.kind]
    by_cases e2 : (la L j).kind = (la L i).kind
    · have hpj : Go.Proofs.YtkjcmppaapbabaaDoor.isP (la L j) = true := isP_k.2 (e2.trans e1)
      have c1 := hk.gates i j hi hj hp hpj
      by_cases e3 : (la L j).gate = (la L i).gate
      · have c2 := hk.ranks i j hi hj hp hpj e3
        rw [Bool.eq_iff_iff]
        simp only [Bool.and_eq_true, beq_iff_eq]
        rw [c1, c2]
      · have c3 : ¬(F (la L j)).gate = (F (la L i)).gate := fun e => e3 (c1.1 e)
        have q1 : ((la L j).gate == (la L i).gate) = false := by simpa using e3
        have q2 : ((F (la L j)).gate == (F (la L i)).gate) = false := by simpa using c3
        rw [q1, q2]; simp
    · have : ((la L j).kind == (la L i).kind) = false := by simpa using e2
      rw [this]; rfl
  · rw [if_neg e1] at h0 ⊢
    by_cases e2 : (la L i).kind = 2
    · have hc := isC_k.2 e2
      rw [if_pos e2] at h0 ⊢
      simp only [decide_eq_true_eq] at h0 ⊢
      obtain ⟨a1, a2, a3, a4, a5, a6, a7⟩ := h0
      obtain ⟨b1, b2, b3, b4, b5⟩ := hk.cross i hi hc
      refine ⟨by rw [b1]; exact a1, by rw [b2]; exact a2, b3, b4, by rw [h.cN]; exact b5, ?_, ?_⟩
      · rw [← a6]
        refine ct_bij h.bij fun j hj => ?_
        show prB (F (la L i)) (la M (τ j)) = prB (la L i) (la L j)
        rw [h.img j hj]
        unfold prB
        rw [h.kind, h.kind]
        by_cases e3 : (la L j).kind = (la L i).kind
        · have hcj : Go.Proofs.YtkjcmppaapbabaaDoor.isC (la L j) = true := isC_k.2 (e3.trans e2)
          have c1 := hk.ids i j hi hj hc hcj
          by_cases e4 : (la L j).id = (la L i).id
          · have c2 := hk.signs i j hi hj hc hcj e4
            have c3 := hk.overs i j hi hj hc hcj e4
            rw [Bool.eq_iff_iff]
            simp only [Bool.and_eq_true, beq_iff_eq, bne_iff_ne, ne_eq]
            rw [c1, c2, c3]
          · have c5 : ¬(F (la L j)).id = (F (la L i)).id := fun e => e4 (c1.1 e)
            have q1 : ((la L j).id == (la L i).id) = false := by simpa using e4
            have q2 : ((F (la L j)).id == (F (la L i)).id) = false := by simpa using c5
            rw [q1, q2]; simp
        · have : ((la L j).kind == (la L i).kind) = false := by simpa using e3
          rw [this]; rfl
      · rw [← a7]
        refine ct_bij h.bij fun j hj => ?_
        show (Go.Proofs.YtkjcmppaapbabaaDoor.isC (la M (τ j)) && (la M (τ j)).id == (F (la L i)).id) = _
        rw [h.isC hj, h.img j hj]
        cases hcj : Go.Proofs.YtkjcmppaapbabaaDoor.isC (la L j) with
        | false => rfl
        | true =>
          have := hk.ids i j hi hj hc hcj
          show ((F (la L j)).id == (F (la L i)).id) = ((la L j).id == (la L i).id)
          rw [Bool.eq_iff_iff, beq_iff_eq, beq_iff_eq]
          exact this
    · rw [if_neg e2] at h0; cases h0
theorem Car.good (h : Car L M F τ σ) (hk : Keeps K K' L F) (hL : 0 < L.length) (hv : validB2 K L = true) (hf : Go.Proofs.YtkjcmppaapbabaaDoor.isP (la M 0) = true) : Good K' M := by
  unfold validB2 at hv
  simp only [Bool.and_eq_true, decide_eq_true_eq] at hv
  have hl := h.letters hk hv.1.2
  rw [← letters_iff] at hl
  simp only [Bool.and_eq_true] at hl
  exact good_of_parts (by rw [h.len]; exact hL) hf (by rw [h.len, h.pN]; exact hv.1.1.2) hl.1.1 hl.1.2 hl.2
theorem Car.oth (h : Car L M F τ σ) (hk : Keeps K K' L F) (g : Good K L) (g' : Good K' M) {i : Nat} (hc : Go.Proofs.YtkjcmppaapbabaaDoor.isC (la L i) = true) : othN M (τ i) = τ (othN L i) := by
  have hi := isC_lt hc
  obtain ⟨o1, o2, o3, _, _, _⟩ := g.other hc
  have ho := isC_lt o2
  have hc' : Go.Proofs.YtkjcmppaapbabaaDoor.isC (la M (τ i)) = true := by rw [h.isC hi]; exact hc
  obtain ⟨_, _, _, _, _, o6⟩ := g'.other hc'
  refine (o6 (τ (othN L i)) (by rw [h.isC ho]; exact o2) ?_ (fun e => o1 (h.bij.inj ho hi e))).symm
  rw [h.img _ ho, h.img _ hi]
  exact (hk.ids i _ hi ho hc o2).2 o3
theorem Car.at_ (h : Car L M F τ σ) (g : Good K L) (g' : Good K' M) (ho : ∀ i j, i < L.length → j < L.length → Go.Proofs.YtkjcmppaapbabaaDoor.isP (la L i) = true → Go.Proofs.YtkjcmppaapbabaaDoor.isP (la L j) = true → lftB (F (la L j)) (F (la L i)) = lftB (la L j) (la L i))
    {i : Nat} (hp : Go.Proofs.YtkjcmppaapbabaaDoor.isP (la L i) = true) : atN M (τ i) = atN L i := by
  have hi := isP_lt hp
  have hp' : Go.Proofs.YtkjcmppaapbabaaDoor.isP (la M (τ i)) = true := by rw [h.isP hi]; exact hp
  rw [← left_count (fun i hi hp => (g.gates i hi hp).1) g.ranks hi hp, ← left_count (fun i hi hp => (g'.gates i hi hp).1) g'.ranks (isP_lt hp') hp', h.len]
  refine ct_bij h.bij fun j hj => ?_
  rw [h.isP hj, h.img j hj, h.img i hi]
  cases hpj : Go.Proofs.YtkjcmppaapbabaaDoor.isP (la L j) with
  | false => rfl
  | true => rw [ho i j hi hj hp hpj]
theorem Good.lft_total (g : Good K L) {i j : Nat} (hp : isP (la L i) = true) (hpj : isP (la L j) = true) (hne : i ≠ j) : lftB (la L j) (la L i) = !lftB (la L i) (la L j) := by
  have key : ∀ a b, isP (la L a) = true → isP (la L b) = true → a < b → ¬((la L a).gate = (la L b).gate ∧ (la L a).rank = (la L b).rank) := fun a b ha hb hab e => (rkB_iff.1 (g.ranks b (isP_lt hb)) hb).2 a hab ha e.1 e.2
  have h0 : ¬((la L i).gate = (la L j).gate ∧ (la L i).rank = (la L j).rank) := by
    rcases Nat.lt_or_ge i j with h | h
    · exact key i j hp hpj h
    · intro e; exact key j i hpj hp (by omega) ⟨e.1.symm, e.2.symm⟩
  have a1 := lftB_iff (a := la L i) (b := la L j)
  have a2 := lftB_iff (a := la L j) (b := la L i)
  cases q1 : lftB (la L i) (la L j) <;> cases q2 : lftB (la L j) (la L i) <;> simp [q1, q2] at a1 a2 ⊢ <;> omega
theorem lft_irr (x : Lt) : lftB x x = false := by unfold lftB; simp
theorem Car.at_rev (h : Car L M F τ σ) (g : Good K L) (g' : Good K' M) (ho : ∀ i j, i < L.length → j < L.length → Go.Proofs.YtkjcmppaapbabaaDoor.isP (la L i) = true → Go.Proofs.YtkjcmppaapbabaaDoor.isP (la L j) = true → lftB (F (la L j)) (F (la L i)) = lftB (la L i) (la L j))
    {i : Nat} (hp : Go.Proofs.YtkjcmppaapbabaaDoor.isP (la L i) = true) : atN M (τ i) = (axL L).length - 1 - atN L i := by
  have hi := isP_lt hp
  have hp' : Go.Proofs.YtkjcmppaapbabaaDoor.isP (la M (τ i)) = true := by rw [h.isP hi]; exact hp
  have hlt := g.at_lt hp
  have e1 := left_count (fun i hi hp => (g.gates i hi hp).1) g.ranks hi hp
  have e2 := left_count (fun i hi hp => (g'.gates i hi hp).1) g'.ranks (isP_lt hp') hp'
  rw [h.len, ct_bij h.bij (q := fun j => Go.Proofs.YtkjcmppaapbabaaDoor.isP (la M j) && lftB (la M j) (la M (τ i))) (p := fun j => Go.Proofs.YtkjcmppaapbabaaDoor.isP (la L j) && lftB (la L i) (la L j)) (fun j hj => by
    show (Go.Proofs.YtkjcmppaapbabaaDoor.isP (la M (τ j)) && lftB (la M (τ j)) (la M (τ i))) = _
    rw [h.isP hj, h.img j hj, h.img i hi]
    cases hpj : Go.Proofs.YtkjcmppaapbabaaDoor.isP (la L j) with
    | false => rfl
    | true => rw [ho i j hi hj hp hpj])] at e2
  have e3 : Go.Proofs.YtkjcmppaapbabaaDoor.pN L L.length = countTo (fun j => Go.Proofs.YtkjcmppaapbabaaDoor.isP (la L j) && (j == i || lftB (la L i) (la L j))) L.length + countTo (fun j => Go.Proofs.YtkjcmppaapbabaaDoor.isP (la L j) && lftB (la L j) (la L i)) L.length := by
    refine ct_sum (fun j hj => ?_) (fun j hj => ?_)
    · cases hpj : Go.Proofs.YtkjcmppaapbabaaDoor.isP (la L j) with
      | false => rfl
      | true =>
        by_cases e : j = i
        · simp [e]
        · rw [g.lft_total hp hpj (fun e' => e e'.symm)]
          cases lftB (la L i) (la L j) <;> simp
    · rintro ⟨q1, q2⟩
      simp only [Bool.and_eq_true, Bool.or_eq_true, beq_iff_eq] at q1 q2
      rcases q1.2 with e | e
      · rw [e, lft_irr] at q2; cases q2.2
      · have hne : i ≠ j := fun e' => by rw [e', lft_irr] at e; cases e
        rw [g.lft_total hp q2.1 hne, e] at q2; cases q2.2
  have e4 : countTo (fun j => Go.Proofs.YtkjcmppaapbabaaDoor.isP (la L j) && (j == i || lftB (la L i) (la L j))) L.length = 1 + countTo (fun j => Go.Proofs.YtkjcmppaapbabaaDoor.isP (la L j) && lftB (la L i) (la L j)) L.length := by
    rw [ct_sum (p := fun j => j == i) (q := fun j => Go.Proofs.YtkjcmppaapbabaaDoor.isP (la L j) && lftB (la L i) (la L j)) (fun j hj => ?_) (fun j hj => ?_), ct_one hi (by simp) (fun m _ hm => by simpa using hm)]
    · by_cases e : j = i
      · subst e; simp [hp]
      · have e' : (j == i) = false := by simpa using e
        show (Go.Proofs.YtkjcmppaapbabaaDoor.isP (la L j) && (j == i || lftB (la L i) (la L j))) = ((j == i) || (Go.Proofs.YtkjcmppaapbabaaDoor.isP (la L j) && lftB (la L i) (la L j)))
        rw [e']; simp
    · rintro ⟨q1, q2⟩
      simp only [Bool.and_eq_true, beq_iff_eq] at q1 q2
      rw [q1, lft_irr] at q2; cases q2.2
  rw [axL_len]
  omega
/-- Validity, once no code has more walks than the other one. -/
theorem Car.valid (h : Car L M F τ σ) (hk : Keeps K K' L F) (hv : validB2 K L = true) (hf : Go.Proofs.YtkjcmppaapbabaaDoor.isP (la M 0) = true)
    (h1 : (walksL M).length ≤ (walksL L).length) (h2 : (walksL L).length ≤ (walksL M).length) : validB2 K' M = true := by
  unfold validB2 at hv ⊢
  simp only [Bool.and_eq_true, decide_eq_true_eq] at hv ⊢
  refine ⟨⟨⟨hf, by rw [h.len, h.pN]; exact hv.1.1.2⟩, h.letters hk hv.1.2⟩, ?_⟩
  have := hv.2
  unfold flatB at this ⊢
  simp only [beq_iff_eq] at this ⊢
  rw [h.len, h.pN, h.cN]
  omega
theorem Car.image (h : Car L M F τ σ) (hk : Keeps K K' L F) (g : Good K L) (g' : Good K' M) {rev dfl sfl : Bool} {a : Nat → Nat}
    (hn : ∀ i f, i < L.length → τ (nxN L.length i f) = nxN L.length (τ i) (f != rev))
    (hs : ∀ x, Go.Proofs.YtkjcmppaapbabaaDoor.isC x = true → samB (F x) = (samB x != sfl) ∨ ¬ (x.sign = 1 ∨ x.sign = -1))
    (hsg : ∀ i, i < L.length → Go.Proofs.YtkjcmppaapbabaaDoor.isC (la L i) = true → (la L i).sign = 1 ∨ (la L i).sign = -1)
    (ha : ∀ i, Go.Proofs.YtkjcmppaapbabaaDoor.isP (la L i) = true → atN M (τ i) = a (atN L i)) (hd : ∀ i, Go.Proofs.YtkjcmppaapbabaaDoor.isP (la L i) = true → dwn M (τ i) = (dwn L i != dfl)) : Img L M rev dfl sfl a τ σ :=
  ⟨h.len, h.bij.lt, h.bij.gt, h.bij.st, h.bij.ts, hn, fun _ hi => h.isP hi, fun _ hi => h.isC hi, fun _ hc => h.oth hk g g' hc, fun i hc => by
    rw [h.img i (isC_lt hc)]
    rcases hs (la L i) hc with e | e
    · exact e
    · exact absurd (hsg i (isC_lt hc) hc) e, ha, hd, h.pN⟩
end
end

section
def shN (n i j : Nat) : Nat := if i + j < n then i + j else i + j - n
def unN2 (n i j : Nat) : Nat := if i ≤ j then j - i else j + n - i
theorem sh_bij {n i : Nat} (hi : i < n) : Bij n (unN2 n i) (shN n i) := by
  refine ⟨fun j hj => ?_, fun j hj => ?_, fun j hj => ?_, fun j hj => ?_⟩
  · unfold unN2; split <;> omega
  · unfold shN; split <;> omega
  · unfold unN2 shN; split <;> split <;> omega
  · unfold unN2 shN; split <;> split <;> omega
theorem rot_len (L : List Lt) (i : Nat) : (rotT L i).length = L.length := by unfold rotT; simp; omega
theorem la_rot {L : List Lt} {i j : Nat} (hi : i < L.length) (hj : j < L.length) : la (rotT L i) j = la L (shN L.length i j) := by
  unfold la rotT shN
  congr 1
  split
  · rw [List.getElem?_append_left (by simp; omega), List.getElem?_drop]
  · rw [List.getElem?_append_right (by simp; omega), List.getElem?_take, List.length_drop, if_pos (by omega), show j - (L.length - i) = i + j - L.length by omega]
theorem la_un {L : List Lt} {i j : Nat} (hi : i < L.length) (hj : j < L.length) : la (rotT L i) (unN2 L.length i j) = la L j := by
  rw [la_rot hi ((sh_bij hi).lt j hj), (sh_bij hi).st j hj]
theorem un_nx {n i j : Nat} {f : Bool} (hi : i < n) (hj : j < n) : unN2 n i (nxN n j f) = nxN n (unN2 n i j) f := by
  have a := mod_up hj
  have b := mod_dn hj
  have hu := (sh_bij hi).lt j hj
  have c := mod_up hu
  have d := mod_dn hu
  cases f
  · show unN2 n i ((j + n - 1) % n) = (unN2 n i j + n - 1) % n
    rcases b with ⟨b1, b2⟩ | ⟨b1, b2⟩ <;> rcases d with ⟨d1, d2⟩ | ⟨d1, d2⟩ <;> rw [b2, d2] <;> revert d1 <;> unfold unN2 <;> (repeat' split) <;> omega
  · show unN2 n i ((j + 1) % n) = (unN2 n i j + 1) % n
    rcases a with ⟨b1, b2⟩ | ⟨b1, b2⟩ <;> rcases c with ⟨d1, d2⟩ | ⟨d1, d2⟩ <;> rw [b2, d2] <;> revert d1 <;> unfold unN2 <;> (repeat' split) <;> omega
theorem rev_nx {n j : Nat} {f : Bool} (hj : j < n) : n - 1 - nxN n j f = nxN n (n - 1 - j) (!f) := by
  have a := mod_up hj
  have b := mod_dn hj
  have c := mod_up (n := n) (i := n - 1 - j) (by omega)
  have d := mod_dn (n := n) (i := n - 1 - j) (by omega)
  cases f
  · show n - 1 - (j + n - 1) % n = (n - 1 - j + 1) % n
    omega
  · show n - 1 - (j + 1) % n = (n - 1 - j + n - 1) % n
    omega
theorem pN_succ (L : List Lt) (m : Nat) : pN L (m + 1) = pN L m + (if isP (la L m) = true then 1 else 0) := rfl
theorem pN_rot {L : List Lt} {i : Nat} (hi : i < L.length) : ∀ m, m ≤ L.length → pN (rotT L i) m + pN L i = if i + m ≤ L.length then pN L (i + m) else pN L L.length + pN L (i + m - L.length)
  | 0, _ => by rw [if_pos (by omega)]; exact Nat.zero_add _
  | m + 1, hm => by
    have ih := pN_rot hi m (by omega)
    rw [pN_succ, la_rot hi (by omega)]
    unfold shN
    by_cases h1 : i + m < L.length
    · rw [if_pos h1]
      rw [if_pos (by omega)] at ih
      rw [if_pos (show i + (m + 1) ≤ L.length by omega), ← Nat.add_assoc i m 1, pN_succ]
      omega
    · rw [if_neg h1]
      rw [if_neg (show ¬ i + (m + 1) ≤ L.length by omega), show i + (m + 1) - L.length = i + m - L.length + 1 by omega, pN_succ]
      by_cases h2 : i + m = L.length
      · rw [if_pos (by omega)] at ih
        rw [h2] at ih ⊢
        rw [show L.length - L.length = 0 by omega]
        have : pN L 0 = 0 := rfl
        omega
      · rw [if_neg (by omega)] at ih
        omega
/-- The directions, when a code begins elsewhere. -/
theorem dwn_rot {L : List Lt} {i j : Nat} (hi : i < L.length) (hj : j < L.length) (he : pN L L.length % 2 = 0) : dwn (rotT L i) (unN2 L.length i j) = (dwn L j != !dwn L i) := by
  have h := pN_rot hi (unN2 L.length i j) (Nat.le_of_lt ((sh_bij hi).lt j hj))
  have h2 : pN (rotT L i) (unN2 L.length i j) + pN L i = pN L j ∨ pN (rotT L i) (unN2 L.length i j) + pN L i = pN L L.length + pN L j := by
    rw [h]
    unfold unN2
    by_cases hij : i ≤ j
    · rw [if_pos hij, if_pos (by omega), show i + (j - i) = j by omega]; exact .inl rfl
    · rw [if_neg hij]
      by_cases h0 : j = 0
      · subst h0
        rw [if_pos (by omega), show i + (0 + L.length - i) = L.length by omega]; exact .inr rfl
      · rw [if_neg (by omega), show i + (j + L.length - i) - L.length = j by omega]; exact .inr rfl
  unfold dwn
  generalize pN (rotT L i) (unN2 L.length i j) = x at h2
  have key : (x + pN L i) % 2 = pN L j % 2 := by omega
  rcases Nat.mod_two_eq_zero_or_one (pN L i) with a | a <;> rcases Nat.mod_two_eq_zero_or_one (pN L j) with b | b <;> rcases Nat.mod_two_eq_zero_or_one x with c | c <;> rw [a, b, c] <;> first | rfl | omega
theorem la_revN {L : List Lt} {i : Nat} (hi : i < L.length) : la L.reverse i = la L (L.length - 1 - i) := by
  unfold la
  rw [List.getElem?_reverse (by omega)]
theorem pN_rev {L : List Lt} : ∀ m, m ≤ L.length → pN L.reverse m + pN L (L.length - m) = pN L L.length
  | 0, _ => by show 0 + pN L (L.length - 0) = _; rw [Nat.sub_zero, Nat.zero_add]
  | m + 1, hm => by
    have ih := pN_rev (L := L) m (by omega)
    rw [pN_succ, la_revN (by omega)]
    rw [show L.length - m = (L.length - (m + 1)) + 1 by omega, pN_succ, show L.length - (m + 1) = L.length - 1 - m by omega] at ih
    rw [show L.length - (m + 1) = L.length - 1 - m by omega]
    omega
theorem dwn_rev {L : List Lt} {j : Nat} (hj : j < L.length) (hp : isP (la L j) = true) (he : pN L L.length % 2 = 0) : dwn L.reverse (L.length - 1 - j) = !dwn L j := by
  have h := pN_rev (L := L) (L.length - 1 - j) (by omega)
  rw [show L.length - (L.length - 1 - j) = j + 1 by omega, pN_succ, if_pos hp] at h
  unfold dwn
  generalize pN L.reverse (L.length - 1 - j) = x at h
  have key : (x + pN L j + 1) % 2 = 0 := by omega
  rcases Nat.mod_two_eq_zero_or_one (pN L j) with b | b <;> rcases Nat.mod_two_eq_zero_or_one x with c | c <;> rw [b, c] <;> first | rfl | omega
theorem settle_some {L : List Lt} {d : Nat → Bool} (h : ∃ k, k < L.length ∧ (isP (la L k) && d k) = true) : ∃ k, k < L.length ∧ (isP (la L k) && d k) = true ∧ (∀ i, i < k → (isP (la L i) && d i) = false) ∧ settleL L d = rotT L k := by
  obtain ⟨k0, hk0, h0⟩ := h
  have hex : ∃ k, k ≤ k0 ∧ (isP (la L k) && d k) = true ∧ ∀ i, i < k → (isP (la L i) && d i) = false := by
    have := ct_first (p := fun i => isP (la L i) && d i) (n := k0 + 1) (ct_pos (i := k0) (by omega) h0)
    obtain ⟨i, h1, h2, h3⟩ := this
    exact ⟨i, by omega, h2, h3⟩
  obtain ⟨k, h1, h2, h3⟩ := hex
  exact ⟨k, by omega, h2, h3, settle_at h3 h2 (by omega)⟩
section
variable {K : Int} {L : List Lt}
theorem valid_parts (hv : validB2 K L = true) : pN L L.length % 2 = 0 ∧ lettersR K L = true := by
  unfold validB2 at hv
  simp only [Bool.and_eq_true, decide_eq_true_eq] at hv
  exact ⟨hv.1.1.2, hv.1.2⟩
/-- What the tests say of one letter. -/
theorem pass_parts (hl : lettersR K L = true) {i : Nat} (hi : i < L.length) (hp : isP (la L i) = true) : (la L i).id = 0 ∧ (la L i).sign = 0 ∧ (la L i).over = false ∧ 0 ≤ (la L i).gate ∧ (la L i).gate ≤ K ∧ 1 ≤ (la L i).rank ∧ (la L i).rank ≤ (gN L (la L i).gate L.length : Int) := by
  unfold lettersR at hl
  rw [allTo_iff] at hl
  have h0 := hl i hi
  unfold rlB at h0
  rw [if_pos (isP_k.1 hp)] at h0
  simp only [decide_eq_true_eq] at h0
  obtain ⟨a1, a2, a3, a4, a5, a6, a7, a8⟩ := h0
  exact ⟨a1, a2, a3, a4, a5, a6, a7⟩
theorem cross_parts (hl : lettersR K L = true) {i : Nat} (hi : i < L.length) (hc : isC (la L i) = true) : (la L i).gate = 0 ∧ (la L i).rank = 0 ∧ ((la L i).sign = 1 ∨ (la L i).sign = -1) ∧ 1 ≤ (la L i).id ∧ (la L i).id ≤ ((cN L L.length / 2 : Nat) : Int) := by
  unfold lettersR at hl
  rw [allTo_iff] at hl
  have h0 := hl i hi
  have h2 := isC_k.1 hc
  unfold rlB at h0
  rw [if_neg (by rw [h2]; omega), if_pos h2] at h0
  simp only [decide_eq_true_eq] at h0
  obtain ⟨a1, a2, a3, a4, a5, a6, a7⟩ := h0
  exact ⟨a1, a2, a3, a4, a5⟩
theorem keeps_id (hl : lettersR K L = true) : Keeps K K L (fun x => x) :=
  ⟨fun i hi hp => by obtain ⟨a1, a2, a3, a4, a5, a6, a7⟩ := pass_parts hl hi hp; exact ⟨rfl, rfl, rfl, a4, a5, a6, a7⟩, fun _ _ _ _ _ _ => Iff.rfl, fun _ _ _ _ _ _ _ => Iff.rfl,
    fun i hi hc => by obtain ⟨a1, a2, a3, a4, a5⟩ := cross_parts hl hi hc; exact ⟨rfl, rfl, a3, a4, a5⟩, fun _ _ _ _ _ _ => Iff.rfl, fun _ _ _ _ _ _ _ => Iff.rfl, fun _ _ _ _ _ _ _ => Iff.rfl⟩
theorem bne_false (b : Bool) : (b != false) = b := by cases b <;> rfl
theorem bne_true (b : Bool) : (b != true) = !b := by cases b <;> rfl
/-- Validity by an image the same way round. -/
theorem Car.same {K' : Int} {M : List Lt} {F : Lt → Lt} {τ σ : Nat → Nat} {rev : Bool} (h : Car L M F τ σ) (hL : 0 < L.length) (hv : validB2 K L = true) (hk : Keeps K K' L F) (hf : Go.Proofs.YtkjcmppaapbabaaDoor.isP (la M 0) = true)
    (hn : ∀ i f, i < L.length → τ (nxN L.length i f) = nxN L.length (τ i) (f != rev))
    (hs : ∀ x, Go.Proofs.YtkjcmppaapbabaaDoor.isC x = true → samB (F x) = samB x ∨ ¬ (x.sign = 1 ∨ x.sign = -1))
    (ho : ∀ i j, i < L.length → j < L.length → Go.Proofs.YtkjcmppaapbabaaDoor.isP (la L i) = true → Go.Proofs.YtkjcmppaapbabaaDoor.isP (la L j) = true → lftB (F (la L j)) (F (la L i)) = lftB (la L j) (la L i))
    (hd : ∀ i, Go.Proofs.YtkjcmppaapbabaaDoor.isP (la L i) = true → dwn M (τ i) = (dwn L i != rev)) : validB2 K' M = true := by
  have g := good_of_valid hL hv
  have hl := (valid_parts hv).2
  have g' := h.good hk hL hv hf
  have im := h.image hk g g' (rev := rev) (dfl := rev) (sfl := false) (a := id) hn (fun x hx => by rw [bne_false]; exact hs x hx) (fun i hi hc => (cross_parts hl hi hc).2.2.1) (fun i hp => h.at_ g g' ho hp) hd
  exact h.valid hk hv hf (im.le_same g g') ((im.symm g (b := id) (fun _ _ => rfl)).le_same g' g)
theorem start_car {i : Nat} (hi : i < L.length) : Car L (rotT L i) (fun x => x) (unN2 L.length i) (shN L.length i) :=
  ⟨rot_len L i, sh_bij hi, fun _ hj => la_un hi hj, fun _ => rfl⟩
theorem un_self (n i : Nat) : unN2 n i i = 0 := by unfold unN2; rw [if_pos (Nat.le_refl _)]; omega
theorem start_valid (hv : validB2 K L = true) {i : Nat} (hi : i < L.length) (hp : isP (la L i) = true) (hd : dwn L i = true) : validB2 K (rotT L i) = true :=
  (start_car hi).same (rev := false) (by omega) hv (keeps_id (valid_parts hv).2) (by have := la_un hi hi; rw [un_self] at this; rw [this]; exact hp) (fun _ f hj => by rw [bne_false]; exact un_nx hi hj) (fun _ _ => .inl rfl) (fun _ _ _ _ _ _ => rfl)
    (fun _ hpj => by rw [dwn_rot hi (isP_lt hpj) (valid_parts hv).1, hd]; rfl)
theorem Good.up (g : Good K L) : ∃ k, k < L.length ∧ isP (la L k) = true ∧ dwn L k = false := by
  have h0 : 0 < pN L L.length := ct_pos g.pos g.first
  have h2 : 2 ≤ pN L L.length := by have := g.even; omega
  have key : ∀ m, 2 ≤ pN L m → ∃ k, k < m ∧ isP (la L k) = true ∧ pN L k % 2 = 1 := by
    intro m
    induction m with
    | zero => intro h; have : pN L 0 = 0 := rfl; omega
    | succ m ih =>
      intro h
      by_cases e : 2 ≤ pN L m
      · obtain ⟨k, h1, h2⟩ := ih e; exact ⟨k, by omega, h2⟩
      · rw [pN_succ] at h
        by_cases hp : isP (la L m) = true
        · rw [if_pos hp] at h; exact ⟨m, by omega, hp, by omega⟩
        · rw [if_neg hp] at h; omega
  obtain ⟨k, h1, h3, h4⟩ := key _ h2
  exact ⟨k, h1, h3, by unfold dwn; rw [h4]; rfl⟩
/-- The code that is traveled backwards is the reverse, begun at a pass. -/
theorem back_is (hL : 0 < L.length) (hv : validB2 K L = true) : ∃ k, k < L.length ∧ isP (la L k) = true ∧ dwn L k = false ∧ backL L = rotT L.reverse (L.length - 1 - k) := by
  obtain ⟨k, h1, h2, h3⟩ := (good_of_valid hL hv).up
  obtain ⟨q, q1, q2, _, q4⟩ := settle_some (L := L.reverse) (d := fun i => !dwn L (L.length - 1 - i)) ⟨L.length - 1 - k, by simp; omega, by
    rw [la_revN (by omega), show L.length - 1 - (L.length - 1 - k) = k by omega, h2, h3]; rfl⟩
  simp at q1
  rw [la_revN q1] at q2
  simp only [Bool.and_eq_true, Bool.not_eq_true'] at q2
  exact ⟨L.length - 1 - q, by omega, q2.1, q2.2, by rw [show L.length - 1 - (L.length - 1 - q) = q by omega]; exact q4⟩
theorem back_car {k : Nat} (hk : k < L.length) : Car L (rotT L.reverse (L.length - 1 - k)) (fun x => x) (fun j => unN2 L.length (L.length - 1 - k) (L.length - 1 - j)) (fun j => L.length - 1 - shN L.length (L.length - 1 - k) j) := by
  have hb := sh_bij (n := L.length) (i := L.length - 1 - k) (by omega)
  refine ⟨by rw [rot_len]; simp, ⟨fun j hj => hb.lt _ (by omega), fun j hj => by omega, fun j hj => ?_, fun j hj => ?_⟩, fun j hj => ?_, fun _ => rfl⟩
  · show L.length - 1 - shN L.length (L.length - 1 - k) (unN2 L.length (L.length - 1 - k) (L.length - 1 - j)) = j
    rw [hb.st _ (by omega)]; omega
  · show unN2 L.length (L.length - 1 - k) (L.length - 1 - (L.length - 1 - shN L.length (L.length - 1 - k) j)) = j
    have := hb.gt j hj
    rw [show L.length - 1 - (L.length - 1 - shN L.length (L.length - 1 - k) j) = shN L.length (L.length - 1 - k) j by omega, hb.ts j hj]
  · show la (rotT L.reverse (L.length - 1 - k)) (unN2 L.length (L.length - 1 - k) (L.length - 1 - j)) = la L j
    have := la_un (L := L.reverse) (i := L.length - 1 - k) (j := L.length - 1 - j) (by simp; omega) (by simp; omega)
    rw [List.length_reverse] at this
    rw [this, la_revN (by omega), show L.length - 1 - (L.length - 1 - j) = j by omega]
theorem dwn_back {k j : Nat} (he : pN L L.length % 2 = 0) (hk : k < L.length) (hp : isP (la L k) = true) (hd : dwn L k = false) (hpj : isP (la L j) = true) : dwn (rotT L.reverse (L.length - 1 - k)) (unN2 L.length (L.length - 1 - k) (L.length - 1 - j)) = !dwn L j := by
  have hj := isP_lt hpj
  have hr : pN L.reverse L.reverse.length % 2 = 0 := by
    have := pN_rev (L := L) L.length (Nat.le_refl _)
    rw [Nat.sub_self] at this
    have h0 : pN L 0 = 0 := rfl
    rw [List.length_reverse]; omega
  have := dwn_rot (L := L.reverse) (i := L.length - 1 - k) (j := L.length - 1 - j) (by simp; omega) (by simp; omega) hr
  rw [List.length_reverse] at this
  rw [this, dwn_rev hk hp he, dwn_rev hj hpj he, hd]
  cases dwn L j <;> rfl
theorem back_valid (hL : 0 < L.length) (hv : validB2 K L = true) : validB2 K (backL L) = true := by
  obtain ⟨k, h1, h2, h3, h4⟩ := back_is hL hv
  rw [h4]
  have hc := back_car h1
  refine hc.same (rev := true) hL hv (keeps_id (valid_parts hv).2) ?_ (fun j f hj => ?_) (fun _ _ => .inl rfl) (fun _ _ _ _ _ _ => rfl) (fun j hpj => ?_)
  · have := hc.img k h1
    rw [show unN2 L.length (L.length - 1 - k) (L.length - 1 - k) = 0 from un_self _ _] at this
    rw [this]; exact h2
  · show unN2 L.length (L.length - 1 - k) (L.length - 1 - nxN L.length j f) = nxN L.length (unN2 L.length (L.length - 1 - k) (L.length - 1 - j)) (f != true)
    rw [rev_nx hj, un_nx (by omega) (by omega), bne_true]
  · rw [dwn_back (valid_parts hv).1 h1 h2 h3 hpj, bne_true]
end
end

section
section
variable {K : Int} {L : List Lt}
theorem la_mapF {F : Lt → Lt} {i : Nat} (hi : i < L.length) : la (L.map F) i = F (la L i) := la_map hi
theorem map_car {F : Lt → Lt} (hk : ∀ x, (F x).kind = x.kind) : Car L (L.map F) F (fun i => i) (fun i => i) := ⟨by simp, Bij.refl _, fun _ hi => la_mapF hi, hk⟩
theorem map_dwn {F : Lt → Lt} (hk : ∀ x, (F x).kind = x.kind) {i : Nat} (hi : i ≤ L.length) : dwn (L.map F) i = dwn L i := by
  unfold dwn
  have : pN (L.map F) i = pN L i := ct_congr fun j hj => by
    show isP (la (L.map F) j) = _
    rw [la_mapF (by omega)]; unfold isP; rw [hk]
  rw [this]
theorem map_first {F : Lt → Lt} (hk : ∀ x, (F x).kind = x.kind) (hL : 0 < L.length) (g : isP (la L 0) = true) : isP (la (L.map F) 0) = true := by
  rw [la_mapF hL]; unfold isP at g ⊢; rw [hk]; exact g
theorem first_of (hv : validB2 K L = true) : isP (la L 0) = true := by
  unfold validB2 at hv
  simp only [Bool.and_eq_true, decide_eq_true_eq] at hv
  exact hv.1.1.1
theorem sw_kind (x : Lt) : (swLt x).kind = x.kind := by unfold swLt; split <;> rfl
theorem swap_valid (hL : 0 < L.length) (hv : validB2 K L = true) : validB2 K (swapL L) = true := by
  have hl := (valid_parts hv).2
  refine (map_car sw_kind).same (rev := false) hL hv ⟨fun i hi hp => ?_, fun i j _ _ hp hpj => ?_, fun i j _ _ hp hpj _ => ?_, fun i hi hc => ?_, fun i j _ _ hc hcj => ?_, fun i j _ _ hc hcj _ => ?_, fun i j _ _ hc hcj _ => ?_⟩ (map_first sw_kind hL (first_of hv)) (fun i f _ => by rw [bne_false]) (fun x hx => ?_) (fun i j _ _ hp hpj => ?_) (fun i hp => by unfold swapL; rw [map_dwn sw_kind (Nat.le_of_lt (isP_lt hp)), bne_false])
  · obtain ⟨a1, a2, a3, a4, a5, a6, a7⟩ := pass_parts hl hi hp
    rw [sw_n (isP_isC hp)]
    exact ⟨rfl, rfl, rfl, a4, a5, a6, a7⟩
  · rw [sw_n (isP_isC hp), sw_n (isP_isC hpj)]
  · rw [sw_n (isP_isC hp), sw_n (isP_isC hpj)]
  · obtain ⟨a1, a2, a3, a4, a5⟩ := cross_parts hl hi hc
    rw [sw_c hc]
    exact ⟨rfl, rfl, by simp only []; omega, a4, a5⟩
  · rw [sw_c hc, sw_c hcj]
  · rw [sw_c hc, sw_c hcj]; simp only []; omega
  · rw [sw_c hc, sw_c hcj]
    show (!(la L j).over) = (!(la L i).over) ↔ _
    cases (la L j).over <;> cases (la L i).over <;> simp
  · rw [sw_c hx]
    unfold samB
    by_cases h1 : x.sign = 1
    · left
      simp only [h1]
      cases x.over <;> rfl
    · by_cases h2 : x.sign = -1
      · left
        simp only [h2]
        cases x.over <;> rfl
      · exact .inr (by omega)
  · rw [sw_n (isP_isC hp), sw_n (isP_isC hpj)]
/-- Crossings get other names. -/
def nmLt (s : Int → Int) (x : Lt) : Lt := if isC x then { x with id := s x.id } else x
theorem nm_c {s : Int → Int} {x : Lt} (h : isC x = true) : nmLt s x = { x with id := s x.id } := by unfold nmLt; rw [if_pos h]
theorem nm_n {s : Int → Int} {x : Lt} (h : isC x = false) : nmLt s x = x := by unfold nmLt; rw [if_neg (by rw [h]; simp)]
theorem nm_kind (s : Int → Int) (x : Lt) : (nmLt s x).kind = x.kind := by unfold nmLt; split <;> rfl
theorem named_valid {s : Int → Int} (hL : 0 < L.length) (hv : validB2 K L = true)
    (h1 : ∀ i, i < L.length → isC (la L i) = true → 1 ≤ s (la L i).id ∧ s (la L i).id ≤ ((cN L L.length / 2 : Nat) : Int))
    (h2 : ∀ i j, i < L.length → j < L.length → isC (la L i) = true → isC (la L j) = true → s (la L j).id = s (la L i).id → (la L j).id = (la L i).id) : validB2 K (L.map (nmLt s)) = true := by
  have hl := (valid_parts hv).2
  refine (map_car (nm_kind s)).same (rev := false) hL hv ⟨fun i hi hp => ?_, fun i j _ _ hp hpj => ?_, fun i j _ _ hp hpj _ => ?_, fun i hi hc => ?_, fun i j hi hj hc hcj => ?_, fun i j _ _ hc hcj _ => ?_, fun i j _ _ hc hcj _ => ?_⟩ (map_first (nm_kind s) hL (first_of hv)) (fun i f _ => by rw [bne_false]) (fun x hx => ?_) (fun i j _ _ hp hpj => ?_) (fun i hp => by rw [map_dwn (nm_kind s) (Nat.le_of_lt (isP_lt hp)), bne_false])
  · obtain ⟨a1, a2, a3, a4, a5, a6, a7⟩ := pass_parts hl hi hp
    rw [nm_n (isP_isC hp)]
    exact ⟨rfl, rfl, rfl, a4, a5, a6, a7⟩
  · rw [nm_n (isP_isC hp), nm_n (isP_isC hpj)]
  · rw [nm_n (isP_isC hp), nm_n (isP_isC hpj)]
  · obtain ⟨a1, a2, a3, a4, a5⟩ := cross_parts hl hi hc
    rw [nm_c hc]
    exact ⟨rfl, rfl, a3, (h1 i hi hc).1, (h1 i hi hc).2⟩
  · rw [nm_c hc, nm_c hcj]
    exact ⟨h2 i j hi hj hc hcj, fun e => by show s _ = s _; rw [e]⟩
  · rw [nm_c hc, nm_c hcj]
  · rw [nm_c hc, nm_c hcj]
  · rw [nm_c hx]; exact .inl rfl
  · rw [nm_n (isP_isC hp), nm_n (isP_isC hpj)]
theorem ren_nm (L : List Lt) : renL L = L.map (nmLt (fun d => (posI (metL L) d : Int) + 1)) := rfl
theorem met_count {L : List Lt} : ∀ m, m ≤ L.length → (metT L m).length = dN L m
  | 0, _ => rfl
  | m + 1, hm => by
    have ih := met_count (L := L) m (by omega)
    cases hc : isC (la L m) with
    | false =>
      rw [met_no hc]
      unfold dN at ih ⊢
      rw [countTo_no (by unfold nwB; rw [hc]; rfl)]; exact ih
    | true =>
      by_cases e : (la L m).id ∈ metT L m
      · rw [met_old e]
        unfold dN at ih ⊢
        rw [countTo_no]
        · exact ih
        · obtain ⟨i, h1, h2, h3⟩ := met_mem.1 e
          unfold nwB
          rw [allTo_no h1 (by rw [h2, h3]; simp), Bool.and_false]
      · rw [met_new hc e]
        unfold dN at ih ⊢
        rw [countTo_yes, List.length_append, ih]; rfl
        unfold nwB
        rw [hc, Bool.true_and, allTo_iff]
        intro j hj
        cases hcj : isC (la L j) with
        | false => rfl
        | true =>
          have : ¬ (la L j).id = (la L m).id := fun e2 => e (met_mem.2 ⟨j, hj, hcj, e2⟩)
          simpa using this
theorem Good.met_len (g : Good K L) : (metL L).length = cN L L.length / 2 := by
  unfold metL
  rw [met_count _ (Nat.le_refl _)]
  refine dN_is ?_
  unfold crossP
  rw [Bool.and_eq_true, decide_eq_true_eq, allTo_iff]
  exact ⟨g.ceven, g.cross⟩
theorem met_has {i : Nat} (hc : isC (la L i) = true) : (la L i).id ∈ metL L := met_mem.2 ⟨i, isC_lt hc, hc, rfl⟩
theorem pos_inj {M : List Int} {d e : Int} (hd : d ∈ M) (he : e ∈ M) (h : posI M d = posI M e) : d = e := by
  have a := pos_get hd
  have b := pos_get he
  rw [h, b] at a
  exact (Option.some.inj a).symm
theorem ren_valid (hL : 0 < L.length) (hv : validB2 K L = true) : validB2 K (renL L) = true := by
  have g := good_of_valid hL hv
  rw [ren_nm]
  refine named_valid hL hv (fun i hi hc => ?_) (fun i j hi hj hc hcj e => ?_)
  · have := pos_lt (met_has hc)
    rw [g.met_len] at this
    show 1 ≤ (posI (metL L) (la L i).id : Int) + 1 ∧ (posI (metL L) (la L i).id : Int) + 1 ≤ _
    omega
  · refine pos_inj (met_has hcj) (met_has hc) ?_
    have e' : (posI (metL L) (la L j).id : Int) + 1 = (posI (metL L) (la L i).id : Int) + 1 := e
    omega
/-- Validity by an image the other way round. -/
theorem Car.other {K' : Int} {M : List Lt} {F : Lt → Lt} {τ σ : Nat → Nat} {dfl : Bool} {a : Nat → Nat} (h : Car L M F τ σ) (hL : 0 < L.length) (hv : validB2 K L = true) (hk : Keeps K K' L F) (hf : Go.Proofs.YtkjcmppaapbabaaDoor.isP (la M 0) = true)
    (hn : ∀ i f, i < L.length → τ (nxN L.length i f) = nxN L.length (τ i) f)
    (hs : ∀ x, Go.Proofs.YtkjcmppaapbabaaDoor.isC x = true → samB (F x) = (!samB x) ∨ ¬ (x.sign = 1 ∨ x.sign = -1))
    (ha : (dfl = true ∧ (∀ j, a j = j) ∧ ∀ i j, i < L.length → j < L.length → Go.Proofs.YtkjcmppaapbabaaDoor.isP (la L i) = true → Go.Proofs.YtkjcmppaapbabaaDoor.isP (la L j) = true → lftB (F (la L j)) (F (la L i)) = lftB (la L j) (la L i)) ∨
      (dfl = false ∧ (∀ j, a j = (axL L).length - 1 - j) ∧ ∀ i j, i < L.length → j < L.length → Go.Proofs.YtkjcmppaapbabaaDoor.isP (la L i) = true → Go.Proofs.YtkjcmppaapbabaaDoor.isP (la L j) = true → lftB (F (la L j)) (F (la L i)) = lftB (la L i) (la L j)))
    (hd : ∀ i, Go.Proofs.YtkjcmppaapbabaaDoor.isP (la L i) = true → dwn M (τ i) = (dwn L i != dfl)) : validB2 K' M = true := by
  have g := good_of_valid hL hv
  have hl := (valid_parts hv).2
  have g' := h.good hk hL hv hf
  have im := h.image hk g g' (rev := false) (dfl := dfl) (sfl := true) (a := a) (fun i f hi => by rw [bne_false]; exact hn i f hi) (fun x hx => by rw [bne_true]; exact hs x hx) (fun i hi hc => (cross_parts hl hi hc).2.2.1) (fun i hp => by
    rcases ha with ⟨_, e, ho⟩ | ⟨_, e, ho⟩
    · rw [e]; exact h.at_ g g' ho hp
    · rw [e]; exact h.at_rev g g' ho hp) hd
  have hax := im.axl
  refine h.valid hk hv hf (im.le_other g g' ?_) ((im.symm g (b := a) (fun j hj => ?_)).le_other g' g ?_)
  · rcases ha with ⟨e, h1, _⟩ | ⟨e, h1, _⟩
    · exact .inl ⟨e, h1⟩
    · exact .inr ⟨e, h1⟩
  · rcases ha with ⟨_, e, _⟩ | ⟨_, e, _⟩
    · rw [e, e]
    · rw [e, e]; omega
  · rcases ha with ⟨e, h1, _⟩ | ⟨e, h1, _⟩
    · exact .inl ⟨e, h1⟩
    · exact .inr ⟨e, by rw [hax]; exact h1⟩
theorem isC_isP {l : Lt} (h : isC l = true) : isP l = false := by unfold isC at h; unfold isP; simp at h ⊢; omega
theorem mr_kind (K : Int) (L : List Lt) (x : Lt) : (mrLt K L x).kind = x.kind := by unfold mrLt; split <;> rfl
theorem mirror_valid (hL : 0 < L.length) (hv : validB2 K L = true) : validB2 K (mirrorL K L) = true := by
  have hl := (valid_parts hv).2
  refine (map_car (mr_kind K L)).other (dfl := false) (a := fun j => (axL L).length - 1 - j) hL hv ⟨fun i hi hp => ?_, fun i j _ _ hp hpj => ?_, fun i j _ _ hp hpj hg => ?_, fun i hi hc => ?_, fun i j _ _ hc hcj => ?_, fun i j _ _ hc hcj _ => ?_, fun i j _ _ hc hcj _ => ?_⟩ (map_first (mr_kind K L) hL (first_of hv)) (fun _ _ _ => rfl) (fun x hx => ?_) (.inr ⟨rfl, fun _ => rfl, fun i j hi hj hp hpj => ?_⟩) (fun i hp => by unfold mirrorL; rw [map_dwn (mr_kind K L) (Nat.le_of_lt (isP_lt hp)), bne_false])
  · obtain ⟨a1, a2, a3, a4, a5, a6, a7⟩ := pass_parts hl hi hp
    rw [mr_p hp]
    exact ⟨rfl, rfl, rfl, by simp only []; omega, by simp only []; omega, by simp only []; omega, by simp only []; omega⟩
  · rw [mr_p hp, mr_p hpj]; simp only []; omega
  · rw [mr_p hp, mr_p hpj]; simp only []; rw [hg]; omega
  · obtain ⟨a1, a2, a3, a4, a5⟩ := cross_parts hl hi hc
    rw [mr_n (isC_isP hc)]
    exact ⟨rfl, rfl, by simp only []; omega, a4, a5⟩
  · rw [mr_n (isC_isP hc), mr_n (isC_isP hcj)]
  · rw [mr_n (isC_isP hc), mr_n (isC_isP hcj)]; simp only []; omega
  · rw [mr_n (isC_isP hc), mr_n (isC_isP hcj)]
  · rw [mr_n (isC_isP hx)]
    unfold samB
    by_cases h1 : x.sign = 1
    · left
      simp only [h1]
      cases x.over <;> rfl
    · by_cases h2 : x.sign = -1
      · left
        simp only [h2]
        cases x.over <;> rfl
      · exact .inr (by omega)
  · rw [mr_p hp, mr_p hpj]
    refine lftB_eq ?_
    simp only []
    obtain ⟨_, _, _, _, _, b6, b7⟩ := pass_parts hl hi hp
    obtain ⟨_, _, _, _, _, c6, c7⟩ := pass_parts hl hj hpj
    constructor
    · rintro (h | ⟨h1, h2⟩)
      · left; omega
      · right
        have e : (la L i).gate = (la L j).gate := by omega
        rw [e] at h2
        exact ⟨e, by omega⟩
    · rintro (h | ⟨h1, h2⟩)
      · left; omega
      · right
        rw [h1]
        exact ⟨rfl, by omega⟩
theorem to_kind (x : Lt) : (toLt x).kind = x.kind := by unfold toLt; split <;> rfl
theorem turn_is (hL : 0 < L.length) (hv : validB2 K L = true) : ∃ k, k < L.length ∧ isP (la L k) = true ∧ dwn L k = false ∧ turnL L = rotT (L.map toLt) k := by
  obtain ⟨k, h1, h2, h3⟩ := (good_of_valid hL hv).up
  have hp : ∀ i, i < L.length → isP (la (L.map toLt) i) = isP (la L i) := fun i hi => by rw [la_mapF hi]; unfold isP; rw [to_kind]
  obtain ⟨q, q1, q2, _, q4⟩ := settle_some (L := L.map toLt) (d := fun i => !dwn L i) ⟨k, by simpa using h1, by rw [hp k h1, h2, h3]; rfl⟩
  simp at q1
  rw [hp q q1] at q2
  simp only [Bool.and_eq_true, Bool.not_eq_true'] at q2
  exact ⟨q, q1, q2.1, q2.2, q4⟩
theorem turn_car {k : Nat} (hk : k < L.length) : Car L (rotT (L.map toLt) k) toLt (unN2 L.length k) (shN L.length k) :=
  ⟨by rw [rot_len]; simp, sh_bij hk, fun j hj => by
    have := la_un (L := L.map toLt) (i := k) (j := j) (by simpa using hk) (by simpa using hj)
    rw [List.length_map] at this
    rw [this, la_mapF hj], to_kind⟩
theorem dwn_turn {k j : Nat} (he : pN L L.length % 2 = 0) (hk : k < L.length) (hd : dwn L k = false) (hj : j < L.length) : dwn (rotT (L.map toLt) k) (unN2 L.length k j) = !dwn L j := by
  have hr : pN (L.map toLt) (L.map toLt).length % 2 = 0 := by
    have := (map_car (L := L) to_kind).pN
    rw [List.length_map, this]; exact he
  have := dwn_rot (L := L.map toLt) (i := k) (j := j) (by simpa using hk) (by simpa using hj) hr
  rw [List.length_map] at this
  rw [this, map_dwn to_kind (by omega), map_dwn to_kind (by omega), hd]
  cases dwn L j <;> rfl
theorem turn_valid (hL : 0 < L.length) (hv : validB2 K L = true) : validB2 K (turnL L) = true := by
  obtain ⟨k, h1, h2, h3, h4⟩ := turn_is hL hv
  have hl := (valid_parts hv).2
  rw [h4]
  have hc := turn_car h1
  refine hc.other (dfl := true) (a := fun j => j) hL hv ⟨fun i hi hp => ?_, fun i j _ _ hp hpj => ?_, fun i j _ _ hp hpj _ => ?_, fun i hi hc => ?_, fun i j _ _ hc hcj => ?_, fun i j _ _ hc hcj _ => ?_, fun i j _ _ hc hcj _ => ?_⟩ ?_ (fun j f hj => un_nx h1 hj) (fun x hx => ?_) (.inl ⟨rfl, fun _ => rfl, fun i j _ _ hp hpj => ?_⟩) (fun j hpj => by rw [dwn_turn (valid_parts hv).1 h1 h3 (isP_lt hpj), bne_true])
  · obtain ⟨a1, a2, a3, a4, a5, a6, a7⟩ := pass_parts hl hi hp
    rw [to_n (isP_isC hp)]
    exact ⟨rfl, rfl, rfl, a4, a5, a6, a7⟩
  · rw [to_n (isP_isC hp), to_n (isP_isC hpj)]
  · rw [to_n (isP_isC hp), to_n (isP_isC hpj)]
  · obtain ⟨a1, a2, a3, a4, a5⟩ := cross_parts hl hi hc
    rw [to_c hc]
    exact ⟨rfl, rfl, a3, a4, a5⟩
  · rw [to_c hc, to_c hcj]
  · rw [to_c hc, to_c hcj]
  · rw [to_c hc, to_c hcj]
    show (!(la L j).over) = (!(la L i).over) ↔ _
    cases (la L j).over <;> cases (la L i).over <;> simp
  · have := hc.isP h1
    rw [un_self] at this
    rw [this]; exact h2
  · rw [to_c hx]
    left
    unfold samB
    simp only []
    cases x.over <;> cases (x.sign == 1) <;> rfl
  · rw [to_n (isP_isC hp), to_n (isP_isC hpj)]
end
end

section
theorem la_getI {L : List Lt} {i : Nat} (h : i < L.length) : L[i]? = some (la L i) := by
  unfold la
  rw [List.getElem?_eq_getElem h]; rfl
theorem ls_iff {a b : Lt} : lsB a b = true ↔ (a.kind < b.kind ∨ (a.kind = b.kind ∧ (a.gate < b.gate ∨ (a.gate = b.gate ∧ (a.rank < b.rank ∨ (a.rank = b.rank ∧ (a.id < b.id ∨ (a.id = b.id ∧ ((a.over = false ∧ b.over = true) ∨ (a.over = b.over ∧ a.sign < b.sign)))))))))) := by
  unfold lsB
  by_cases h1 : a.kind = b.kind
  · rw [if_neg (by simp [h1])]
    by_cases h2 : a.gate = b.gate
    · rw [if_neg (by simp [h2])]
      by_cases h3 : a.rank = b.rank
      · rw [if_neg (by simp [h3])]
        by_cases h4 : a.id = b.id
        · rw [if_neg (by simp [h4])]
          by_cases h5 : a.over = b.over
          · rw [if_neg (by simp [h5])]
            simp only [h1, h2, h3, h4, h5, decide_eq_true_eq, true_and, Int.lt_irrefl, false_or]
            constructor
            · intro h; exact .inr h
            · rintro (h | h)
              · rw [h.1] at h; cases h.2
              · exact h
          · rw [if_pos h5]
            simp only [h1, h2, h3, h4, h5, true_and, Int.lt_irrefl, false_or, false_and, or_false]
            revert h5
            cases a.over <;> cases b.over <;> simp
        · rw [if_pos h4]
          simp only [h1, h2, h3, h4, decide_eq_true_eq, true_and, Int.lt_irrefl, false_or, false_and, or_false]
      · rw [if_pos h3]
        simp only [h1, h2, h3, decide_eq_true_eq, true_and, Int.lt_irrefl, false_or, false_and, or_false]
    · rw [if_pos h2]
      simp only [h1, h2, decide_eq_true_eq, true_and, Int.lt_irrefl, false_or, false_and, or_false]
  · rw [if_pos h1]
    simp only [h1, decide_eq_true_eq, false_and, or_false]
theorem ls_irr (a : Lt) : lsB a a = false := by
  cases h : lsB a a with
  | false => rfl
  | true =>
    rw [ls_iff] at h
    simp at h
theorem ls_trans {a b c : Lt} (h1 : lsB a b = true) (h2 : lsB b c = true) : lsB a c = true := by
  rw [ls_iff] at h1 h2 ⊢
  cases h3 : a.over <;> cases h4 : b.over <;> cases h5 : c.over <;> simp only [h3, h4, h5] at h1 h2 ⊢ <;> simp at h1 h2 ⊢ <;> omega
theorem ls_total {a b : Lt} (h : a ≠ b) : lsB a b = true ∨ lsB b a = true := by
  rw [ls_iff, ls_iff]
  have hne : ¬(a.kind = b.kind ∧ a.gate = b.gate ∧ a.rank = b.rank ∧ a.id = b.id ∧ a.sign = b.sign ∧ a.over = b.over) := fun e => h (by cases a; cases b; simp at e; simp [e])
  cases h3 : a.over <;> cases h4 : b.over <;> simp only [h3, h4] at hne ⊢ <;> simp at hne ⊢ <;> omega
theorem bf_trans : ∀ {A B C : List Lt}, A.length = B.length → B.length = C.length → bfB A B = true → bfB B C = true → bfB A C = true
  | [], B, C, h1, _, h, _ => by cases h
  | a :: A, [], C, h1, _, h, _ => by cases h
  | a :: A, b :: B, [], _, h2, _, h => by cases h
  | a :: A, b :: B, c :: C, h1, h2, h3, h4 => by
    change (if a = b then bfB A B else lsB a b) = true at h3
    change (if b = c then bfB B C else lsB b c) = true at h4
    show (if a = c then bfB A C else lsB a c) = true
    by_cases e1 : a = b
    · subst e1
      rw [if_pos rfl] at h3
      by_cases e2 : a = c
      · rw [if_pos e2] at h4 ⊢
        exact bf_trans (by simpa using h1) (by simpa using h2) h3 h4
      · rw [if_neg e2] at h4 ⊢; exact h4
    · rw [if_neg e1] at h3
      by_cases e2 : b = c
      · subst e2; rw [if_neg e1]; exact h3
      · rw [if_neg e2] at h4
        by_cases e3 : a = c
        · subst e3
          have := ls_trans h3 h4
          rw [ls_irr] at this; cases this
        · rw [if_neg e3]; exact ls_trans h3 h4
theorem bf_total : ∀ {A B : List Lt}, A.length = B.length → A ≠ B → bfB A B = true ∨ bfB B A = true
  | [], [], _, h => absurd rfl h
  | [], b :: B, h, _ => by cases h
  | a :: A, [], h, _ => by cases h
  | a :: A, b :: B, h, hne => by
    show (if a = b then bfB A B else lsB a b) = true ∨ (if b = a then bfB B A else lsB b a) = true
    by_cases e : a = b
    · subst e
      rw [if_pos rfl, if_pos rfl]
      exact bf_total (by simpa using h) (fun e => hne (by rw [e]))
    · rw [if_neg e, if_neg (fun e2 => e e2.symm)]
      exact ls_total e
/-- The least of what a search has seen. -/
theorem pick_least {n : Nat} : ∀ (Y : List (List Lt)) (b : List Lt), b.length = n → (∀ y ∈ Y, y.length = n) → (Y.foldl pick b) ∈ b :: Y ∧ ∀ y ∈ b :: Y, bfB y (Y.foldl pick b) = false
  | [], b, _, _ => ⟨by simp, fun y hy => by simp at hy; subst hy; exact bf_refl _⟩
  | y :: Y, b, hb, hY => by
    have hp : pick b y = b ∨ pick b y = y := by unfold pick; split <;> simp
    have hl : (pick b y).length = n := by
      rcases hp with e | e <;> rw [e]
      · exact hb
      · exact hY y (by simp)
    obtain ⟨h1, h2⟩ := pick_least Y (pick b y) hl (fun z hz => hY z (by simp [hz]))
    have hm : (Y.foldl pick (pick b y)).length = n := by
      rcases List.mem_cons.1 h1 with e | e
      · rw [e]; exact hl
      · exact hY _ (by simp [e])
    show Y.foldl pick (pick b y) ∈ b :: y :: Y ∧ ∀ z ∈ b :: y :: Y, bfB z (Y.foldl pick (pick b y)) = false
    have hbest := h2 (pick b y) (by simp)
    have hlow : ∀ z, z.length = n → bfB z (pick b y) = false → bfB z (Y.foldl pick (pick b y)) = false := by
      intro z hz hzp
      cases hq : bfB z (Y.foldl pick (pick b y)) with
      | false => rfl
      | true =>
        by_cases e : Y.foldl pick (pick b y) = pick b y
        · rw [e] at hq; rw [hq] at hzp; cases hzp
        · rcases bf_total (A := Y.foldl pick (pick b y)) (B := pick b y) (by rw [hm, hl]) e with h | h
          · have := bf_trans (by rw [hz, hm]) (by rw [hm, hl]) hq h
            rw [this] at hzp; cases hzp
          · rw [h] at hbest; cases hbest
    refine ⟨?_, fun z hz => ?_⟩
    · rcases List.mem_cons.1 h1 with e | e
      · rw [e]
        rcases hp with e2 | e2 <;> rw [e2] <;> simp
      · simp [e]
    · rcases List.mem_cons.1 hz with e | hz
      · subst e
        refine hlow z hb ?_
        unfold pick
        split
        · rename_i h
          cases hq : bfB z y with
          | false => rfl
          | true =>
            have := bf_trans (by rw [hb, hY y (by simp)]) (by rw [hb, hY y (by simp)]) hq h
            rw [bf_refl] at this; cases this
        · exact bf_refl _
      · rcases List.mem_cons.1 hz with e | hz
        · subst e
          refine hlow z (hY z (by simp)) ?_
          unfold pick
          split
          · exact bf_refl _
          · rename_i h
            cases hq : bfB z b with
            | false => rfl
            | true => exact absurd hq h
        · exact h2 z (by simp [hz])
/-- The renamed codes that begin at the passes of one direction; those of the reverse, too. -/
def CsD (b : Bool) (R : List Lt) (y : List Lt) : Prop := ∃ i, i < R.length ∧ isP (la R i) = true ∧ dwn R i = b ∧ y = renL (rotT R i)
def Cs2 (b : Bool) (R : List Lt) (y : List Lt) : Prop := CsD b R y ∨ CsD b R.reverse y
theorem mem_cnd {L y : List Lt} : ∀ {m : Nat}, y ∈ cndT L m ↔ ∃ i, i < m ∧ isP (la L i) = true ∧ dwn L i = true ∧ y = renL (rotT L i)
  | 0 => by simp [cndT]
  | m + 1 => by
    cases h : isP (la L m) && dwn L m with
    | true =>
      rw [cnd_yes h, List.mem_append, mem_cnd]
      simp only [Bool.and_eq_true] at h
      constructor
      · rintro (⟨i, h1, h2⟩ | h1)
        · exact ⟨i, by omega, h2⟩
        · simp at h1; exact ⟨m, by omega, h.1, h.2, h1⟩
      · rintro ⟨i, h1, h2, h3, h4⟩
        by_cases e : i = m
        · subst e; right; simp [h4]
        · exact .inl ⟨i, by omega, h2, h3, h4⟩
    | false =>
      rw [cnd_no h, mem_cnd]
      constructor
      · rintro ⟨i, h1, h2⟩; exact ⟨i, by omega, h2⟩
      · rintro ⟨i, h1, h2, h3, h4⟩
        by_cases e : i = m
        · subst e; rw [h2, h3] at h; cases h
        · exact ⟨i, by omega, h2, h3, h4⟩
theorem rot_zero (L : List Lt) : rotT L 0 = L := by simp [rotT]
theorem rot_rot {L : List Lt} {i j : Nat} (hi : i < L.length) (hj : j < L.length) : rotT (rotT L i) j = rotT L (shN L.length i j) := by
  have hs := (sh_bij hi).gt j hj
  apply List.ext_getElem?
  intro t
  rcases Nat.lt_or_ge t L.length with ht | ht
  · have a1 : la (rotT (rotT L i) j) t = la L (shN L.length i (shN L.length j t)) := by
      have := la_rot (L := rotT L i) (i := j) (j := t) (by rw [rot_len]; exact hj) (by rw [rot_len]; exact ht)
      rw [rot_len] at this
      rw [this, la_rot hi ((sh_bij hj).gt t ht)]
    have a2 := la_rot hs ht
    have e : shN L.length i (shN L.length j t) = shN L.length (shN L.length i j) t := by
      unfold shN; split <;> split <;> split <;> (try split) <;> omega
    rw [e, ← a2] at a1
    rw [la_getI (by rw [rot_len, rot_len]; exact ht), la_getI (by rw [rot_len]; exact ht), a1]
  · rw [List.getElem?_eq_none (by rw [rot_len, rot_len]; exact ht), List.getElem?_eq_none (by rw [rot_len]; exact ht)]
theorem rot_rev {L : List Lt} {k : Nat} (h0 : 0 < k) (hk : k < L.length) : (rotT L k).reverse = rotT L.reverse (L.length - k) := by
  unfold rotT
  rw [List.reverse_append, List.drop_reverse, List.take_reverse, show L.length - (L.length - k) = k by omega]
theorem cs_rot {b : Bool} {R : List Lt} {k : Nat} (hk : k < R.length) (he : pN R R.length % 2 = 0) {y : List Lt} : CsD b (rotT R k) y ↔ CsD (b != !dwn R k) R y := by
  unfold CsD
  rw [rot_len]
  constructor
  · rintro ⟨j, h1, h2, h3, h4⟩
    refine ⟨shN R.length k j, (sh_bij hk).gt j h1, by rw [← la_rot hk h1]; exact h2, ?_, by rw [h4, rot_rot hk h1]⟩
    have := dwn_rot (L := R) hk ((sh_bij hk).gt j h1) he
    rw [(sh_bij hk).ts j h1, h3] at this
    rw [this]
    cases dwn R (shN R.length k j) <;> cases dwn R k <;> rfl
  · rintro ⟨i, h1, h2, h3, h4⟩
    have hu := (sh_bij hk).lt i h1
    refine ⟨unN2 R.length k i, hu, by rw [la_un hk h1]; exact h2, ?_, ?_⟩
    · rw [dwn_rot hk h1 he, h3]
      cases b <;> cases dwn R k <;> rfl
    · rw [h4, rot_rot hk hu, (sh_bij hk).st i h1]
theorem rev_even {R : List Lt} (he : pN R R.length % 2 = 0) : pN R.reverse R.reverse.length % 2 = 0 := by
  have := pN_rev (L := R) R.length (Nat.le_refl _)
  rw [Nat.sub_self] at this
  have h0 : pN R 0 = 0 := rfl
  rw [List.length_reverse]; omega
theorem cs2_rot {b : Bool} {R : List Lt} {k : Nat} (hk : k < R.length) (he : pN R R.length % 2 = 0) {y : List Lt} : Cs2 b (rotT R k) y ↔ Cs2 (b != !dwn R k) R y := by
  unfold Cs2
  rw [cs_rot hk he]
  rcases Nat.eq_zero_or_pos k with h0 | h0
  · subst h0
    rw [rot_zero, show dwn R 0 = true from rfl]
    cases b <;> exact Iff.rfl
  · have hd : dwn R.reverse (R.length - k) = dwn R k := by
      have := pN_rev (L := R) (R.length - k) (by omega)
      rw [show R.length - (R.length - k) = k by omega] at this
      unfold dwn
      generalize pN R.reverse (R.length - k) = x at this
      rcases Nat.mod_two_eq_zero_or_one (pN R k) with a | a <;> rcases Nat.mod_two_eq_zero_or_one x with c | c <;> rw [a, c] <;> first | rfl | omega
    rw [rot_rev h0 hk, cs_rot (by simp; omega) (rev_even he), hd]
theorem cs2_rev {b : Bool} {R : List Lt} {y : List Lt} : Cs2 b R.reverse y ↔ Cs2 b R y := by
  unfold Cs2
  rw [List.reverse_reverse]
  exact Or.comm
theorem rot_map {F : Lt → Lt} (L : List Lt) (k : Nat) : rotT (L.map F) k = (rotT L k).map F := by simp [rotT]
theorem met_map {s : Int → Int} {X : List Lt} (hs : ∀ i j, i < X.length → j < X.length → isC (la X i) = true → isC (la X j) = true → s (la X j).id = s (la X i).id → (la X j).id = (la X i).id) : ∀ m, m ≤ X.length → metT (X.map (nmLt s)) m = (metT X m).map s
  | 0, _ => rfl
  | m + 1, hm => by
    have ih := met_map hs m (by omega)
    have hl : la (X.map (nmLt s)) m = nmLt s (la X m) := la_mapF (by omega)
    cases hc : isC (la X m) with
    | false => rw [met_no hc, met_no (by rw [hl, nm_n hc]; exact hc), ih]
    | true =>
      have hc' : isC (la (X.map (nmLt s)) m) = true := by rw [hl, nm_c hc]; exact hc
      have hid : (la (X.map (nmLt s)) m).id = s (la X m).id := by rw [hl, nm_c hc]
      by_cases e : (la X m).id ∈ metT X m
      · rw [met_old e, met_old (by rw [hid, ih]; exact List.mem_map.2 ⟨_, e, rfl⟩), ih]
      · rw [met_new hc e, met_new hc' (by
          rw [hid, ih]
          intro h
          obtain ⟨d, h1, h2⟩ := List.mem_map.1 h
          obtain ⟨i, a1, a2, a3⟩ := met_mem.1 h1
          have := hs m i (by omega) (by omega) hc a2 (by rw [a3]; exact h2)
          exact e (met_mem.2 ⟨i, a1, a2, this⟩)), ih, hid, List.map_append]; rfl
theorem pos_map {s : Int → Int} {d : Int} : ∀ {M : List Int}, (∀ e ∈ M, s e = s d → e = d) → posI (M.map s) (s d) = posI M d
  | [], _ => rfl
  | e :: M, h => by
    have ih := pos_map (M := M) (fun x hx => h x (by simp [hx]))
    unfold posI at ih ⊢
    rw [List.map_cons, List.findIdx_cons, List.findIdx_cons, ih]
    by_cases e1 : e = d
    · subst e1; simp
    · have e2 : ¬ s e = s d := fun x => e1 (h e (by simp) x)
      have q1 : (s e == s d) = false := by simpa using e2
      have q2 : (e == d) = false := by simpa using e1
      rw [q1, q2]
/-- Other names, the same renamed code. -/
theorem ren_map {s : Int → Int} {X : List Lt} (hs : ∀ i j, i < X.length → j < X.length → isC (la X i) = true → isC (la X j) = true → s (la X j).id = s (la X i).id → (la X j).id = (la X i).id) : renL (X.map (nmLt s)) = renL X := by
  unfold renL metL
  rw [List.length_map, met_map hs _ (Nat.le_refl _), List.map_map]
  apply List.map_congr_left
  intro x hx
  obtain ⟨i, hi, he⟩ := List.getElem_of_mem hx
  have hla : la X i = x := la_of (by rw [List.getElem?_eq_getElem hi, he])
  show rnLt _ (nmLt s x) = rnLt _ x
  cases hc : isC x with
  | false => rw [nm_n hc, rn_n hc, rn_n hc]
  | true =>
    have hc2 : isC (nmLt s x) = true := by rw [nm_c hc]; exact hc
    rw [rn_c hc2, rn_c hc, nm_c hc]
    have := pos_map (s := s) (d := x.id) (M := metT X X.length) (fun e h1 h2 => by
      obtain ⟨j, a1, a2, a3⟩ := met_mem.1 h1
      have := hs i j hi a1 (by rw [hla]; exact hc) a2 (by rw [a3, hla]; exact h2)
      rw [a3, hla] at this
      exact this)
    show { x with id := (posI (List.map s (metT X X.length)) (s x.id) : Int) + 1 } = _
    rw [this]
theorem la_mem {X : List Lt} {x : Lt} : x ∈ X ↔ ∃ i, i < X.length ∧ la X i = x := by
  constructor
  · intro h
    obtain ⟨i, hi, he⟩ := List.getElem_of_mem h
    exact ⟨i, hi, la_of (by rw [List.getElem?_eq_getElem hi, he])⟩
  · rintro ⟨i, hi, rfl⟩
    exact List.mem_of_getElem? (la_getI hi)
/-- One to one on the names of a list. -/
def Inj (s : Int → Int) (X : List Lt) : Prop := ∀ x ∈ X, ∀ y ∈ X, isC x = true → isC y = true → s y.id = s x.id → y.id = x.id
theorem Inj.la {s : Int → Int} {X : List Lt} (h : Inj s X) : ∀ i j, i < X.length → j < X.length → isC (la X i) = true → isC (la X j) = true → s (la X j).id = s (la X i).id → (la X j).id = (la X i).id :=
  fun i j hi hj => h _ (la_mem.2 ⟨i, hi, rfl⟩) _ (la_mem.2 ⟨j, hj, rfl⟩)
theorem mem_rot {L : List Lt} {i : Nat} {x : Lt} : x ∈ rotT L i ↔ x ∈ L := by
  unfold rotT
  constructor
  · intro h
    rcases List.mem_append.1 h with h | h
    · exact List.mem_of_mem_drop h
    · exact List.mem_of_mem_take h
  · intro h
    rw [← List.take_append_drop i L] at h
    rcases List.mem_append.1 h with h | h
    · exact List.mem_append.2 (.inr h)
    · exact List.mem_append.2 (.inl h)
theorem Inj.rot {s : Int → Int} {X : List Lt} (h : Inj s X) (i : Nat) : Inj s (rotT X i) := fun x hx y hy => h x (mem_rot.1 hx) y (mem_rot.1 hy)
theorem Inj.rev {s : Int → Int} {X : List Lt} (h : Inj s X) : Inj s X.reverse := fun x hx y hy => h x (List.mem_reverse.1 hx) y (List.mem_reverse.1 hy)
theorem cs_map {b : Bool} {R : List Lt} {s : Int → Int} (hs : Inj s R) {y : List Lt} : CsD b (R.map (nmLt s)) y ↔ CsD b R y := by
  unfold CsD
  rw [List.length_map]
  have hp : ∀ i, i < R.length → isP (la (R.map (nmLt s)) i) = isP (la R i) := fun i hi => by rw [la_mapF hi]; unfold isP; rw [nm_kind]
  constructor <;>
  · rintro ⟨i, h1, h2, h3, h4⟩
    refine ⟨i, h1, ?_, ?_, ?_⟩
    · first | rw [← hp i h1]; exact h2 | rw [hp i h1]; exact h2
    · have := map_dwn (L := R) (nm_kind s) (Nat.le_of_lt h1)
      first | rw [← this]; exact h3 | rw [this]; exact h3
    · rw [h4, rot_map, ren_map (hs.rot i).la]
theorem cs2_map {b : Bool} {R : List Lt} {s : Int → Int} (hs : Inj s R) {y : List Lt} : Cs2 b (R.map (nmLt s)) y ↔ Cs2 b R y := by
  unfold Cs2
  rw [cs_map hs, ← List.map_reverse, cs_map hs.rev]
theorem cs_len {b : Bool} {R y : List Lt} (h : CsD b R y) : y.length = R.length := by
  obtain ⟨i, _, _, _, e⟩ := h
  rw [e, ren_len, rot_len]
section
variable {K : Int} {L : List Lt}
theorem back_cs (hL : 0 < L.length) (hv : validB2 K L = true) {y : List Lt} : CsD true (backL L) y ↔ CsD true L.reverse y := by
  obtain ⟨k, h1, h2, h3, h4⟩ := back_is hL hv
  rw [h4, cs_rot (by simp; omega) (rev_even (valid_parts hv).1), dwn_rev h1 h2 (valid_parts hv).1, h3]
  exact Iff.rfl
theorem back_len (hL : 0 < L.length) (hv : validB2 K L = true) : (backL L).length = L.length := by
  obtain ⟨k, h1, h2, h3, h4⟩ := back_is hL hv
  rw [h4, rot_len, List.length_reverse]
/-- The normal form is the least of them. -/
theorem norm_least (hL : 0 < L.length) (hv : validB2 K L = true) : Cs2 true L (normL L) ∧ ∀ y, Cs2 true L y → bfB y (normL L) = false := by
  have hb := back_len hL hv
  have hmem : ∀ y, y ∈ cndT L L.length ++ cndT (backL L) (backL L).length ↔ Cs2 true L y := by
    intro y
    rw [List.mem_append, mem_cnd, mem_cnd]
    unfold Cs2
    rw [← back_cs hL hv]
    exact Iff.rfl
  have h0 : Cs2 true L (renL L) := .inl ⟨0, hL, first_of hv, rfl, by rw [rot_zero]⟩
  obtain ⟨h1, h2⟩ := pick_least (n := L.length) (cndT L L.length ++ cndT (backL L) (backL L).length) (renL L) (ren_len L) (fun y hy => by
    rcases (hmem y).1 hy with h | h
    · exact cs_len h
    · have := cs_len h
      rw [List.length_reverse] at this; exact this)
  refine ⟨?_, fun y hy => h2 y (List.mem_cons_of_mem _ ((hmem y).2 hy))⟩
  rcases List.mem_cons.1 h1 with e | e
  · unfold normL; rw [e]; exact h0
  · exact (hmem _).1 e
theorem cs2_len {b : Bool} {R y : List Lt} (h : Cs2 b R y) : y.length = R.length := by
  rcases h with h | h
  · exact cs_len h
  · have := cs_len h
    rw [List.length_reverse] at this; exact this
theorem norm_len (hL : 0 < L.length) (hv : validB2 K L = true) : (normL L).length = L.length := cs2_len (norm_least hL hv).1
theorem norm_eq {K' : Int} {M : List Lt} (hL : 0 < L.length) (hv : validB2 K L = true) (hM : M.length = L.length) (hv' : validB2 K' M = true) (h : ∀ y, Cs2 true M y ↔ Cs2 true L y) : normL M = normL L := by
  obtain ⟨a1, a2⟩ := norm_least hL hv
  obtain ⟨b1, b2⟩ := norm_least (by rw [hM]; exact hL) hv'
  by_cases e : normL M = normL L
  · exact e
  · have c1 := a2 _ ((h _).1 b1)
    have c2 := b2 _ ((h _).2 a1)
    rcases bf_total (by rw [cs2_len a1, cs2_len b1, hM]) e with q | q
    · rw [q] at c1; cases c1
    · rw [q] at c2; cases c2
theorem start_norm (hv : validB2 K L = true) {i : Nat} (hi : i < L.length) (hp : isP (la L i) = true) (hd : dwn L i = true) : normL (rotT L i) = normL L :=
  norm_eq (by omega) hv (rot_len L i) (start_valid hv hi hp hd) (fun y => by rw [cs2_rot hi (valid_parts hv).1, hd]; exact Iff.rfl)
theorem back_norm (hL : 0 < L.length) (hv : validB2 K L = true) : normL (backL L) = normL L := by
  refine norm_eq hL hv (back_len hL hv) (back_valid hL hv) (fun y => ?_)
  obtain ⟨k, h1, h2, h3, h4⟩ := back_is hL hv
  rw [h4, cs2_rot (by simp; omega) (rev_even (valid_parts hv).1), dwn_rev h1 h2 (valid_parts hv).1, h3, cs2_rev]
  exact Iff.rfl
theorem named_norm {s : Int → Int} (hL : 0 < L.length) (hv : validB2 K L = true) (hs : Inj s L) (hm : validB2 K (L.map (nmLt s)) = true) : normL (L.map (nmLt s)) = normL L :=
  norm_eq hL hv (by simp) hm (fun _ => cs2_map hs)
theorem ren_inj (L : List Lt) : Inj (fun d => (posI (metL L) d : Int) + 1) L := fun x hx y hy hcx hcy e => by
  obtain ⟨i, _, rfl⟩ := la_mem.1 hx
  obtain ⟨j, _, rfl⟩ := la_mem.1 hy
  have e' : (posI (metL L) (la L j).id : Int) + 1 = (posI (metL L) (la L i).id : Int) + 1 := e
  exact pos_inj (met_has hcy) (met_has hcx) (by omega)
theorem ren_norm (hL : 0 < L.length) (hv : validB2 K L = true) : normL (renL L) = normL L :=
  named_norm hL hv (ren_inj L) (ren_valid hL hv)
/-- What the normal form is. -/
theorem norm_form (hL : 0 < L.length) (hv : validB2 K L = true) : ∃ R i, (R = L ∨ R = L.reverse) ∧ i < L.length ∧ isP (la R i) = true ∧ dwn R i = true ∧ normL L = renL (rotT R i) := by
  rcases (norm_least hL hv).1 with ⟨i, h1, h2, h3, h4⟩ | ⟨i, h1, h2, h3, h4⟩
  · exact ⟨L, i, .inl rfl, h1, h2, h3, h4⟩
  · exact ⟨L.reverse, i, .inr rfl, by simpa using h1, h2, h3, h4⟩
/-- The reverse, begun at a pass. -/
theorem rev_start (hL : 0 < L.length) (hv : validB2 K L = true) {i : Nat} (hi : i < L.length) (hp : isP (la L.reverse i) = true) (hd : dwn L.reverse i = true) : validB2 K (rotT L.reverse i) = true := by
  obtain ⟨k, h1, h2, h3, h4⟩ := back_is hL hv
  have hb := back_valid hL hv
  rw [h4] at hb
  have hq : L.length - 1 - k < L.reverse.length := by simp; omega
  have hi' : i < L.reverse.length := by simpa using hi
  have hu := (sh_bij hq).lt i hi'
  have hdk : dwn L.reverse (L.length - 1 - k) = true := by rw [dwn_rev h1 h2 (valid_parts hv).1, h3]; rfl
  have := start_valid hb (i := unN2 L.reverse.length (L.length - 1 - k) i) (by rw [rot_len]; exact hu) (by rw [la_un hq hi']; exact hp) (by rw [dwn_rot hq hi' (rev_even (valid_parts hv).1), hd, hdk]; rfl)
  rw [rot_rot hq hu, (sh_bij hq).st i hi'] at this
  exact this
theorem norm_valid (hL : 0 < L.length) (hv : validB2 K L = true) : validB2 K (normL L) = true := by
  obtain ⟨R, i, hR, h1, h2, h3, h4⟩ := norm_form hL hv
  rw [h4]
  rcases hR with rfl | rfl
  · exact ren_valid (by rw [rot_len]; exact hL) (start_valid hv h1 h2 h3)
  · exact ren_valid (by rw [rot_len, List.length_reverse]; exact hL) (rev_start hL hv h1 h2 h3)
theorem norm_norm (hL : 0 < L.length) (hv : validB2 K L = true) : normL (normL L) = normL L := by
  obtain ⟨R, i, hR, h1, h2, h3, h4⟩ := norm_form hL hv
  have hl := norm_len hL hv
  refine norm_eq hL hv hl (norm_valid hL hv) (fun y => ?_)
  rw [h4, ren_nm, cs2_map (ren_inj _)]
  rcases hR with rfl | rfl
  · rw [cs2_rot h1 (valid_parts hv).1, h3]; exact Iff.rfl
  · rw [cs2_rot (by simpa using h1) (rev_even (valid_parts hv).1), h3, cs2_rev]; exact Iff.rfl
end
theorem norm_nil : normL [] = [] := rfl
end

section
theorem la_ext {L M : List Lt} (h : L.length = M.length) (h2 : ∀ i, i < L.length → la L i = la M i) : L = M := by
  apply List.ext_getElem?
  intro i
  rcases Nat.lt_or_ge i L.length with hi | hi
  · rw [la_getI hi, la_getI (by rw [← h]; exact hi), h2 i hi]
  · rw [List.getElem?_eq_none hi, List.getElem?_eq_none (by rw [← h]; exact hi)]
section
variable {K : Int} {L : List Lt}
theorem swap_swap (L : List Lt) : swapL (swapL L) = L := by
  unfold swapL
  rw [List.map_map]
  conv => rhs; rw [← List.map_id L]
  apply List.map_congr_left
  intro x _
  show swLt (swLt x) = x
  cases h : isC x with
  | true =>
    have h2 : isC (swLt x) = true := by rw [sw_c h]; exact h
    rw [sw_c h2, sw_c h]
    cases x; simp
  | false => rw [sw_n h, sw_n h]
theorem gN_mirror {i : Nat} : gN (mirrorL K L) (K - (la L i).gate) L.length = gN L (la L i).gate L.length := by
  unfold gN mirrorL
  refine ct_congr fun j hj => ?_
  rw [la_mapF hj]
  cases hpj : isP (la L j) with
  | false => rw [mr_n hpj]; show (isP _ && _) = false; unfold isP at hpj ⊢; simp only []; rw [hpj]; rfl
  | true =>
    rw [mr_p hpj]
    show (isP _ && _) = _
    have : isP { la L j with gate := K - (la L j).gate, rank := (gN L (la L j).gate L.length : Int) + 1 - (la L j).rank } = true := hpj
    rw [this, Bool.true_and, Bool.true_and, Bool.eq_iff_iff, beq_iff_eq, beq_iff_eq]
    simp only []
    omega
theorem mirror_mirror : mirrorL K (mirrorL K L) = L := by
  refine la_ext (by simp [mirrorL]) (fun i hi => ?_)
  have hi' : i < L.length := by simpa [mirrorL] using hi
  have h1 : la (mirrorL K L) i = mrLt K L (la L i) := by unfold mirrorL; exact la_mapF hi'
  have h2 : la (mirrorL K (mirrorL K L)) i = mrLt K (mirrorL K L) (la (mirrorL K L) i) := by
    conv => lhs; unfold mirrorL
    exact la_mapF (by simpa [mirrorL] using hi')
  rw [h2, h1]
  cases hp : isP (la L i) with
  | true =>
    have hg := gN_mirror (K := K) (L := L) (i := i)
    have hl : (mirrorL K L).length = L.length := by simp [mirrorL]
    rw [mr_p hp]
    rw [mr_p (by exact hp)]
    simp only []
    rw [hl, hg]
    generalize la L i = x
    cases x
    simp only [Lt.mk.injEq, true_and, and_true]
    omega
  | false =>
    rw [mr_n hp, mr_n (by exact hp)]
    cases la L i; simp
theorem gN_map {F : Lt → Lt} (hk : ∀ x ∈ L, (F x).kind = x.kind ∧ (F x).gate = x.gate) (g : Int) : gN (L.map F) g L.length = gN L g L.length := by
  unfold gN
  refine ct_congr fun j hj => ?_
  obtain ⟨h1, h2⟩ := hk (la L j) (la_mem.2 ⟨j, hj, rfl⟩)
  rw [la_mapF hj]
  unfold isP
  rw [h1, h2]
theorem gN_rot {i : Nat} (hi : i < L.length) (g : Int) : gN (rotT L i) g L.length = gN L g L.length := by
  unfold gN
  refine ct_bij (sh_bij hi) fun j hj => ?_
  rw [la_un hi hj]
theorem gN_rev (g : Int) : gN L.reverse g L.length = gN L g L.length := by
  unfold gN
  refine ct_bij (τ := fun j => L.length - 1 - j) (σ := fun j => L.length - 1 - j) ⟨fun j hj => by omega, fun j hj => by omega, fun j hj => by omega, fun j hj => by omega⟩ fun j hj => ?_
  rw [la_revN (by omega), show L.length - 1 - (L.length - 1 - j) = j by omega]
theorem mr_same {M : List Lt} (h : M.length = L.length) (hg : ∀ g, gN M g L.length = gN L g L.length) (x : Lt) : mrLt K M x = mrLt K L x := by
  unfold mrLt
  rw [h, hg]
theorem sw_mr (x : Lt) : mrLt K L (swLt x) = swLt (mrLt K L x) := by
  cases hc : isC x with
  | true =>
    have hp := isC_isP hc
    rw [sw_c hc, mr_n hp, mr_n (by exact hp), sw_c (by exact hc)]
  | false =>
    rw [sw_n hc]
    have : isC (mrLt K L x) = false := by unfold isC at hc ⊢; rw [mr_kind]; exact hc
    rw [sw_n this]
theorem swap_mirror : mirrorL K (swapL L) = swapL (mirrorL K L) := by
  have : mirrorL K (swapL L) = (swapL L).map (mrLt K L) := by
    unfold mirrorL
    exact List.map_congr_left fun x _ => mr_same (by simp) (fun g => gN_map (fun x _ => by unfold swLt; split <;> simp) g) x
  rw [this]
  unfold swapL mirrorL
  rw [List.map_map, List.map_map]
  exact List.map_congr_left fun x _ => sw_mr x
theorem settle_map {F : Lt → Lt} (hk : ∀ x, (F x).kind = x.kind) (X : List Lt) (d : Nat → Bool) : settleL (X.map F) d = (settleL X d).map F := by
  unfold settleL
  rw [rot_map]
  have : settleI (X.map F) d = settleI X d := by
    unfold settleI
    rw [List.length_map]
    congr 1
    have hp : ∀ i, isP (la (X.map F) i) = isP (la X i) := fun i => by
      rcases Nat.lt_or_ge i X.length with hi | hi
      · rw [la_mapF hi]; unfold isP; rw [hk]
      · rw [la_ge hi, la_ge (by simpa using hi)]
    simp only [hp]
  rw [this]
theorem settle_dirs {X : List Lt} {d e : Nat → Bool} (h : ∀ i, d i = e i) : settleL X d = settleL X e := by rw [show d = e from funext h]
theorem map_dwn' {F : Lt → Lt} (hk : ∀ x, (F x).kind = x.kind) (i : Nat) : dwn (L.map F) i = dwn L i := by
  unfold dwn
  have : pN (L.map F) i = pN L i := ct_congr fun j _ => by
    show isP (la (L.map F) j) = _
    rcases Nat.lt_or_ge j L.length with hi | hi
    · rw [la_mapF hi]; unfold isP; rw [hk]
    · rw [la_ge hi, la_ge (by simpa using hi)]
  rw [this]
/-- Turning and a change letter by letter. -/
theorem turn_map {F : Lt → Lt} (hk : ∀ x, (F x).kind = x.kind) (hc : ∀ x, toLt (F x) = F (toLt x)) : turnL (L.map F) = (turnL L).map F := by
  unfold turnL
  rw [← settle_map hk, List.map_map, List.map_map]
  rw [settle_dirs (fun i => by rw [map_dwn' hk])]
  congr 1
  exact List.map_congr_left fun x _ => hc x
theorem to_sw (x : Lt) : toLt (swLt x) = swLt (toLt x) := by
  cases hc : isC x with
  | true => rw [sw_c hc, to_c hc, to_c (by exact hc), sw_c (by exact hc)]
  | false => rw [sw_n hc, to_n hc, sw_n hc]
theorem to_mr (x : Lt) : toLt (mrLt K L x) = mrLt K L (toLt x) := by
  cases hp : isP x with
  | true => rw [to_n (isP_isC hp), to_n (by unfold isC; rw [mr_kind]; exact isP_isC hp)]
  | false =>
    have hp2 : isP (toLt x) = false := by unfold isP at hp ⊢; rw [to_kind]; exact hp
    rw [mr_n hp, mr_n hp2]
    cases hc : isC x with
    | true => rw [to_c hc, to_c (by exact hc)]
    | false => rw [to_n hc, to_n (by exact hc)]
theorem swap_turn : turnL (swapL L) = swapL (turnL L) := turn_map sw_kind to_sw
theorem turn_len (hL : 0 < L.length) (hv : validB2 K L = true) : (turnL L).length = L.length := by
  obtain ⟨k, _, _, _, h4⟩ := turn_is hL hv
  rw [h4, rot_len, List.length_map]
theorem gN_turn (hL : 0 < L.length) (hv : validB2 K L = true) (g : Int) : gN (turnL L) g L.length = gN L g L.length := by
  obtain ⟨k, h1, _, _, h4⟩ := turn_is hL hv
  rw [h4]
  have := gN_rot (L := L.map toLt) (i := k) (by simpa using h1) g
  rw [List.length_map] at this
  rw [this, gN_map (fun x _ => by unfold toLt; split <;> simp)]
theorem mirror_turn (hL : 0 < L.length) (hv : validB2 K L = true) : turnL (mirrorL K L) = mirrorL K (turnL L) := by
  have : mirrorL K (turnL L) = (turnL L).map (mrLt K L) := by
    unfold mirrorL
    exact List.map_congr_left fun x _ => mr_same (turn_len hL hv) (gN_turn hL hv) x
  rw [this]
  exact turn_map (mr_kind K L) to_mr
/-- The turned code's string. -/
theorem turn_cs (hL : 0 < L.length) (hv : validB2 K L = true) {b : Bool} {y : List Lt} : Cs2 b (turnL L) y ↔ Cs2 (!b) (L.map toLt) y := by
  obtain ⟨k, h1, _, h3, h4⟩ := turn_is hL hv
  have hr : pN (L.map toLt) (L.map toLt).length % 2 = 0 := by
    have := (map_car (L := L) to_kind).pN
    rw [List.length_map, this]; exact (valid_parts hv).1
  rw [h4, cs2_rot (by simpa using h1) hr, map_dwn' to_kind, h3]
  cases b <;> exact Iff.rfl
theorem to_to (x : Lt) : toLt (toLt x) = x := by
  cases hc : isC x with
  | true => rw [to_c hc, to_c (by exact hc)]; cases x; simp
  | false => rw [to_n hc, to_n hc]
theorem turn_turn (hL : 0 < L.length) (hv : validB2 K L = true) : normL (turnL (turnL L)) = normL L := by
  have hl := turn_len hL hv
  have hv2 := turn_valid hL hv
  have hv3 := turn_valid (by rw [hl]; exact hL) hv2
  have hl2 := turn_len (by rw [hl]; exact hL) hv2
  refine norm_eq hL hv (by rw [hl2, hl]) hv3 (fun y => ?_)
  obtain ⟨k, h1, _, h3, h4⟩ := turn_is hL hv
  rw [turn_cs (by rw [hl]; exact hL) hv2, h4, ← rot_map, List.map_map, show (L.map (toLt ∘ toLt)) = L from by
    conv => rhs; rw [← List.map_id L]
    exact List.map_congr_left fun x _ => to_to x]
  rw [cs2_rot h1 (valid_parts hv).1, h3]
  exact Iff.rfl
/-- A change letter by letter that leaves names alone goes over to the normal form's string. -/
theorem norm_cs {F : Lt → Lt} (hk : ∀ x, (F x).kind = x.kind) (hid : ∀ x, (F x).id = x.id) (hc : ∀ s x, F (nmLt s x) = nmLt s (F x)) (hL : 0 < L.length) (hv : validB2 K L = true) {b : Bool} {y : List Lt} : Cs2 b ((normL L).map F) y ↔ Cs2 b (L.map F) y := by
  obtain ⟨R, i, hR, h1, _, h3, h4⟩ := norm_form hL hv
  have hRl : R.length = L.length := by rcases hR with rfl | rfl <;> simp
  have hRe : pN R R.length % 2 = 0 := by
    rcases hR with rfl | rfl
    · exact (valid_parts hv).1
    · exact rev_even (valid_parts hv).1
  have hCk : ∀ x, isC (F x) = isC x := fun x => by unfold isC; rw [hk]
  rw [h4, ren_nm, List.map_map, show (F ∘ nmLt (fun d => (posI (metL (rotT R i)) d : Int) + 1)) = (nmLt (fun d => (posI (metL (rotT R i)) d : Int) + 1)) ∘ F from funext fun x => hc _ x, ← List.map_map]
  rw [cs2_map (fun x hx y hy hcx hcy e => by
    obtain ⟨x', hx', rfl⟩ := List.mem_map.1 hx
    obtain ⟨y', hy', rfl⟩ := List.mem_map.1 hy
    rw [hid, hid] at e ⊢
    rw [hCk] at hcx hcy
    exact ren_inj _ x' hx' y' hy' hcx hcy e), ← rot_map]
  have hRe2 : pN (R.map F) (R.map F).length % 2 = 0 := by
    have := (map_car (L := R) hk).pN
    rw [List.length_map, this]; exact hRe
  rw [cs2_rot (by rw [List.length_map, hRl]; exact h1) hRe2, map_dwn' hk, h3, show (b != !true) = b by cases b <;> rfl]
  rcases hR with rfl | rfl
  · exact Iff.rfl
  · rw [List.map_reverse, cs2_rev]
theorem sw_nm (s : Int → Int) (x : Lt) : swLt (nmLt s x) = nmLt s (swLt x) := by
  cases hc : isC x with
  | true => rw [nm_c hc, sw_c hc, sw_c (by exact hc), nm_c (by exact hc)]
  | false => rw [nm_n hc, sw_n hc, nm_n hc]
theorem to_nm (s : Int → Int) (x : Lt) : toLt (nmLt s x) = nmLt s (toLt x) := by
  cases hc : isC x with
  | true => rw [nm_c hc, to_c hc, to_c (by exact hc), nm_c (by exact hc)]
  | false => rw [nm_n hc, to_n hc, nm_n hc]
theorem mr_nm (s : Int → Int) (x : Lt) : mrLt K L (nmLt s x) = nmLt s (mrLt K L x) := by
  cases hc : isC x with
  | true =>
    have hp := isC_isP hc
    rw [nm_c hc, mr_n hp, mr_n (by exact hp), nm_c (by exact hc)]
  | false => rw [nm_n hc, nm_n (by unfold isC at hc ⊢; rw [mr_kind]; exact hc)]
theorem swap_norm (hL : 0 < L.length) (hv : validB2 K L = true) : normL (swapL (normL L)) = normL (swapL L) := by
  have hl := norm_len hL hv
  exact norm_eq (by simpa [swapL] using hL) (swap_valid hL hv) (by simp [swapL, hl]) (swap_valid (by rw [hl]; exact hL) (norm_valid hL hv)) (fun y => norm_cs sw_kind (fun x => by unfold swLt; split <;> rfl) sw_nm hL hv)
theorem gN_norm (hL : 0 < L.length) (hv : validB2 K L = true) (g : Int) : gN (normL L) g L.length = gN L g L.length := by
  obtain ⟨R, i, hR, h1, _, _, h4⟩ := norm_form hL hv
  have hRl : R.length = L.length := by rcases hR with rfl | rfl <;> simp
  have e1 := gN_map (L := rotT R i) (F := nmLt (fun d => (posI (metL (rotT R i)) d : Int) + 1)) (fun x _ => by unfold nmLt; split <;> simp) g
  have e2 := gN_rot (L := R) (i := i) (by rw [hRl]; exact h1) g
  rw [rot_len, hRl] at e1
  rw [hRl] at e2
  rw [h4, ren_nm, e1, e2]
  rcases hR with rfl | rfl
  · rfl
  · exact gN_rev g
theorem mirror_norm (hL : 0 < L.length) (hv : validB2 K L = true) : normL (mirrorL K (normL L)) = normL (mirrorL K L) := by
  have hl := norm_len hL hv
  refine norm_eq (by simpa [mirrorL] using hL) (mirror_valid hL hv) (by simp [mirrorL, hl]) (mirror_valid (by rw [hl]; exact hL) (norm_valid hL hv)) (fun y => ?_)
  have : mirrorL K (normL L) = (normL L).map (mrLt K L) := by
    unfold mirrorL
    exact List.map_congr_left fun x _ => mr_same hl (gN_norm hL hv) x
  rw [this]
  exact norm_cs (mr_kind K L) (fun x => by unfold mrLt; split <;> rfl) mr_nm hL hv
theorem turn_norm (hL : 0 < L.length) (hv : validB2 K L = true) : normL (turnL (normL L)) = normL (turnL L) := by
  have hl := norm_len hL hv
  have hv2 := norm_valid hL hv
  have hl2 := turn_len (by rw [hl]; exact hL) hv2
  refine norm_eq (by rw [turn_len hL hv]; exact hL) (turn_valid hL hv) (by rw [hl2, hl, turn_len hL hv]) (turn_valid (by rw [hl]; exact hL) hv2) (fun y => ?_)
  rw [turn_cs (by rw [hl]; exact hL) hv2, turn_cs hL hv]
  exact norm_cs to_kind (fun x => by unfold toLt; split <;> rfl) to_nm hL hv
end
end
end Go.Proofs.YtkjcmppaapbabaaDoor
