/-
  Plain laws of words: the normal form of a word is a word; forgetting; winding numbers of one curve. No walk.
  Plain: one step of the reference's reduction stays on the curve; what it ends with is reduced. No walk.
  Plain laws of words: the normal form is reduced and its own normal form; inserted pairs; mirror, turn and reverse. No walk.
-/
import Derived.Test.YtkjcmppaapbabaaDoorJW
import Derived.Test.YtkjcmppaapbabaaDoorJY
namespace Go.Proofs.YtkjcmppaapbabaaDoor
section
theorem mem_dih {X Y : List Int} {x : Int} (h : Dih X Y) (hx : x ∈ Y) : x ∈ X := by
  rcases h with ⟨U, V, hX, rfl, _⟩ | ⟨U, V, hX, rfl, _⟩
  · rw [hX]; simp at hx ⊢; exact hx.symm
  · have : x ∈ X.reverse := by rw [hX]; simp at hx ⊢; exact hx.symm
    simpa using this
theorem reduceL_even {L : List Int} (he : L.length % 2 = 0) : (reduceL L).length % 2 = 0 := by rw [reduceL_KK, KK_len]; exact he
theorem normalL_dih {L : List Int} (he : L.length % 2 = 0) : Dih (reduceL L) (normalL L) := (bestL_isMin (reduceL_even he)).1
theorem mem_normalL {L : List Int} {x : Int} (he : L.length % 2 = 0) (h : x ∈ normalL L) : x ∈ L := mem_reduceL (mem_dih (normalL_dih he) h)
theorem normalL_len {L : List Int} (he : L.length % 2 = 0) : (normalL L).length ≤ L.length ∧ (normalL L).length % 2 = 0 := by
  rw [(normalL_dih he).len]
  exact ⟨reduceL_len L, reduceL_even he⟩
theorem wordB_iff {L : List Int} : wordB L = true ↔ L.length % 2 = 0 ∧ L.length ≤ 400 ∧ ∀ x ∈ L, 0 ≤ x ∧ x ≤ 40 := by
  unfold wordB inB
  simp [and_assoc]
theorem validB_iff {K : Int} {L : List Int} : validB K L = true ↔ 0 ≤ K ∧ K ≤ 40 ∧ wordB L = true ∧ ∀ x ∈ L, x ≤ K := by
  unfold validB
  simp [and_assoc]
theorem wordB_normalL {L : List Int} (h : wordB L = true) : wordB (normalL L) = true := by
  obtain ⟨h1, h2, h3⟩ := wordB_iff.1 h
  obtain ⟨l1, l2⟩ := normalL_len h1
  exact wordB_iff.2 ⟨l2, by omega, fun x hx => h3 x (mem_normalL h1 hx)⟩
theorem validB_normalL {K : Int} {L : List Int} (h : validB K L = true) : validB K (normalL L) = true := by
  obtain ⟨h1, h2, h3, h4⟩ := validB_iff.1 h
  exact validB_iff.2 ⟨h1, h2, wordB_normalL h3, fun x hx => h4 x (mem_normalL (wordB_iff.1 h3).1 hx)⟩
theorem validB_drop {K f : Int} {L : List Int} (h : validB K L = true) (h1 : 1 ≤ f) (h2 : f ≤ K) : validB (K - 1) (L.map (dropG f)) = true := by
  obtain ⟨k1, k2, k3, k4⟩ := validB_iff.1 h
  obtain ⟨w1, w2, w3⟩ := wordB_iff.1 k3
  refine validB_iff.2 ⟨by omega, by omega, wordB_iff.2 ⟨by simpa using w1, by simpa using w2, fun x hx => ?_⟩, fun x hx => ?_⟩
  · obtain ⟨y, hy, rfl⟩ := List.mem_map.1 hx
    have := w3 y hy
    unfold dropG; split <;> omega
  · obtain ⟨y, hy, rfl⟩ := List.mem_map.1 hx
    have := w3 y hy
    have := k4 y hy
    unfold dropG; split <;> omega
theorem validB_forget {K f : Int} {L : List Int} (h : validB K L = true) (h1 : 1 ≤ f) (h2 : f ≤ K) : validB (K - 1) (normalL (L.map (dropG f))) = true := validB_normalL (validB_drop h h1 h2)
theorem errF_of {K : Int} {L : List Int} (h : validB K L = true) : errF K L = 0 := by
  have := (wordB_iff.1 (validB_iff.1 h).2.2.1).2.1
  unfold errF
  rw [if_neg (by omega), h]; rfl
theorem errW_of {L : List Int} (h : wordB L = true) : errW L = 0 := by
  have := (wordB_iff.1 h).2.1
  unfold errW
  rw [if_neg (by omega), h]; rfl
theorem errG_of {K f : Int} {L : List Int} (h : validB K L = true) (h1 : 1 ≤ f) (h2 : f ≤ K) : errG K L f = 0 := by
  unfold errG
  rw [if_pos (errF_of h), if_pos ⟨h1, h2⟩]
theorem wordB_even {L : List Int} (h : wordB L = true) : L.length % 2 = 0 := (wordB_iff.1 h).1
theorem validB_even {K : Int} {L : List Int} (h : validB K L = true) : L.length % 2 = 0 := wordB_even (validB_iff.1 h).2.2.1
theorem dropG_swap {f g : Int} (h : f < g) (L : List Int) : (L.map (dropG g)).map (dropG f) = (L.map (dropG f)).map (dropG (g - 1)) := by
  rw [List.map_map, List.map_map]
  apply List.map_congr_left
  intro x _
  show dropG f (dropG g x) = dropG (g - 1) (dropG f x)
  unfold dropG
  by_cases h1 : g ≤ x
  · rw [if_pos h1, if_pos (by omega), if_pos (show f ≤ x by omega), if_pos (by omega)]
  · rw [if_neg h1]
    by_cases h2 : f ≤ x
    · rw [if_pos h2, if_neg (by omega)]
    · rw [if_neg h2, if_neg (by omega)]
theorem forget_both {f g : Int} {L : List Int} (h : f < g) (he : L.length % 2 = 0) :
    normalL ((normalL (L.map (dropG g))).map (dropG f)) = normalL ((normalL (L.map (dropG f))).map (dropG (g - 1))) := by
  rw [normalL_map _ (by simpa using he), normalL_map _ (by simpa using he), dropG_swap h]
theorem eqv_zeros : ∀ (n : Nat) (L : List Int), L.length = 2 * n → (∀ x ∈ L, x = 0) → Eqv L []
  | 0, L, h, _ => by
    have : L = [] := List.eq_nil_of_length_eq_zero (by omega)
    subst this
    exact Eqv.refl _
  | n + 1, L, h, hz => by
    match L, h, hz with
    | [], h, _ => simp at h
    | [_], h, _ => simp at h; omega
    | x :: y :: r, h, hz =>
      have hx := hz x (by simp)
      have hy := hz y (by simp)
      subst hx; subst hy
      exact (Eqv.del [] 0 r).trans (eqv_zeros n r (by simp at h; omega) fun z hz' => hz z (by simp [hz']))
theorem normalL_zeros {L : List Int} (h : validB 0 L = true) : normalL L = [] := by
  obtain ⟨_, _, h3, h4⟩ := validB_iff.1 h
  obtain ⟨w1, w2, w3⟩ := wordB_iff.1 h3
  have := eqv_zeros (L.length / 2) L (by omega) (fun x hx => by have := w3 x hx; have := h4 x hx; omega)
  rw [this.normal w1]
  rfl

/-- The winding number as it is met letter by letter. -/
def wl (f : Int) : Int → List Int → Int
  | _, [] => 0
  | s, g :: r => (if g < f then s else 0) + wl f (-s) r
theorem wl_neg (f : Int) : ∀ (L : List Int) (s : Int), wl f (-s) L = - wl f s L
  | [], _ => rfl
  | g :: r, s => by
    rw [wl, wl, wl_neg f r s, wl_neg f r (-s), wl_neg f r s]
    split <;> omega
theorem wl_app (f : Int) (v : List Int) : ∀ (u : List Int) (s : Int), wl f s (u ++ v) = wl f s u + (if u.length % 2 = 0 then wl f s v else - wl f s v)
  | [], s => by simp [wl]
  | g :: u, s => by
    rw [List.cons_append, wl, wl, wl_app f v u (-s), wl_neg f v s, List.length_cons]
    generalize (if g < f then s else 0) = t
    rcases Nat.mod_two_eq_zero_or_one u.length with h | h
    · rw [if_pos h, if_neg (by omega)]; omega
    · rw [if_neg (by omega), if_pos (by omega)]; omega
theorem wl_one (f s g : Int) : wl f s [g] = if g < f then s else 0 := by simp [wl]
theorem windI_wl (L : List Int) (f : Int) : windI L f = wl f 1 L := by
  have h : ∀ k, k ≤ L.length → sumTo (windAt L f) k = wl f 1 (L.take k) := by
    intro k
    induction k with
    | zero => intro _; rfl
    | succ k ih =>
      intro hk
      have hx : L[k]? = some (L[k]'(by omega)) := List.getElem?_eq_getElem _
      obtain ⟨x, hxe⟩ : ∃ x, L[k]'(by omega) = x := ⟨_, rfl⟩
      rw [hxe] at hx
      rw [sumTo_succ, ih (by omega), List.take_add_one, hx]
      show _ = wl f 1 (L.take k ++ [x])
      rw [wl_app, wl_one, List.length_take, Nat.min_eq_left (by omega)]
      by_cases hf : x < f
      · rw [windAt_yes hx hf, if_pos hf]
        rcases Nat.mod_two_eq_zero_or_one k with h | h
        · rw [if_pos h]; omega
        · rw [if_neg (by omega)]; omega
      · rw [windAt_no hx hf, if_neg hf]
        split <;> omega
  have := h L.length (Nat.le_refl _)
  rw [List.take_length] at this
  exact this
theorem wl_rev (f : Int) : ∀ L : List Int, wl f 1 L.reverse = if L.length % 2 = 0 then - wl f 1 L else wl f 1 L
  | [] => by simp [wl]
  | a :: r => by
    rw [List.reverse_cons, wl_app, wl_rev f r, wl_one, List.length_reverse, List.length_cons, wl, wl_neg]
    generalize (if a < f then (1 : Int) else 0) = t
    rcases Nat.mod_two_eq_zero_or_one r.length with h | h
    · rw [if_pos h, if_pos h, if_neg (by omega)]; omega
    · rw [if_neg (by omega), if_neg (by omega), if_pos (by omega)]; omega
theorem wl_eqv {x y : List Int} (h : Eqv x y) : x.length % 2 = 0 → ∃ s : Int, (s = 1 ∨ s = -1) ∧ ∀ f, wl f 1 y = s * wl f 1 x := by
  induction h with
  | refl => intro _; exact ⟨1, .inl rfl, fun f => by omega⟩
  | symm h ih =>
    intro he
    obtain ⟨s, hs, e⟩ := ih (by rw [h.len]; exact he)
    refine ⟨s, hs, fun f => ?_⟩
    rw [e f]
    rcases hs with rfl | rfl <;> omega
  | trans h _ h1 h2 =>
    intro he
    obtain ⟨s, hs, e⟩ := h1 he
    obtain ⟨t, ht, e'⟩ := h2 (by rw [← h.len]; exact he)
    refine ⟨t * s, ?_, fun f => by rw [e', e, Int.mul_assoc]⟩
    rcases hs with rfl | rfl <;> rcases ht with rfl | rfl <;> simp
  | del u g v =>
    intro _
    refine ⟨1, .inl rfl, fun f => ?_⟩
    rw [wl_app, wl_app, wl, wl, Int.neg_neg]
    split <;> split <;> omega
  | rot u v hu =>
    intro he
    rw [List.length_append] at he
    refine ⟨1, .inl rfl, fun f => ?_⟩
    rw [wl_app, wl_app, if_pos hu, if_pos (by omega)]; omega
  | rev x =>
    intro he
    exact ⟨-1, .inr rfl, fun f => by rw [wl_rev, if_pos he]; omega⟩
theorem windsL_eqv {x y : List Int} (h : Eqv x y) (he : x.length % 2 = 0) (N : Nat) : windsL y N = windsL x N ∨ windsL y N = (windsL x N).map (fun z => -z) := by
  obtain ⟨s, hs, e⟩ := wl_eqv h he
  unfold windsL
  rw [List.map_map]
  rcases hs with rfl | rfl
  · exact .inl (List.map_congr_left fun t _ => by rw [windI_wl, windI_wl, e]; omega)
  · exact .inr (List.map_congr_left fun t _ => by show _ = -windI x _; rw [windI_wl, windI_wl, e]; omega)
theorem windsL_rev {x : List Int} (he : x.length % 2 = 0) (N : Nat) : windsL x.reverse N = (windsL x N).map (fun z => -z) := by
  unfold windsL
  rw [List.map_map]
  exact List.map_congr_left fun t _ => by show _ = -windI x _; rw [windI_wl, windI_wl, wl_rev, if_pos he]
theorem count_wind (L : List Int) (f : Int) (k : Nat) : ((countTo (ltAt L f) k : Nat) : Int) % 2 = sumTo (windAt L f) k % 2 := by
  induction k with
  | zero => rfl
  | succ k ih =>
    rw [sumTo_succ]
    cases h : L[k]? with
    | none =>
      rw [countTo_no (by unfold ltAt; rw [h])]
      have : windAt L f k = 0 := by unfold windAt; rw [h]
      rw [this]; omega
    | some x =>
      by_cases hf : x < f
      · rw [countTo_yes (by rw [ltAt_of h]; simpa using hf), windAt_yes h hf]
        omega
      · rw [countTo_no (by rw [ltAt_of h]; simpa using hf), windAt_no h hf]
        omega
theorem odd_wind (L : List Int) (f : Int) : countTo (ltAt L f) L.length % 2 = 1 ↔ windI L f % 2 = 1 := by
  have := count_wind L f L.length
  unfold windI
  omega
theorem insTo_wind {x y : List Int} (h : ∀ f, windI x f % 2 = windI y f % 2) (k : Nat) : insTo x k = insTo y k := by
  induction k with
  | zero => rfl
  | succ k ih =>
    have := h ((k : Int) + 1)
    rw [insTo, insTo, ih]
    congr 1
    by_cases e : countTo (ltAt x ((k : Int) + 1)) x.length % 2 = 1
    · rw [if_pos e, if_pos ((odd_wind _ _).2 (by rw [← this]; exact (odd_wind _ _).1 e))]
    · rw [if_neg e, if_neg (fun h' => e ((odd_wind _ _).2 (by rw [this]; exact (odd_wind _ _).1 h')))]
theorem insTo_eqv {x y : List Int} (h : Eqv x y) (he : x.length % 2 = 0) (k : Nat) : insTo x k = insTo y k := by
  obtain ⟨s, hs, e⟩ := wl_eqv h he
  refine insTo_wind (fun f => ?_) k
  rw [windI_wl, windI_wl, e]
  rcases hs with rfl | rfl <;> omega
end

section
theorem eqNext_get {P : List Int} {k : Nat} (h : eqNext P k = true) : P[k]? = P[(k + 1) % P.length]? := by
  unfold eqNext at h
  simpa using h
/-- The pair of the first place k is cut out, behind an even rotation. -/
theorem redStep_even {P : List Int} {k : Nat} (he : P.length % 2 = 0) (hk : k < P.length) (hp : eqNext P k = true) (h2 : k % 2 = 0) :
    Eqv P ((rotL P k).drop 2) := by
  have h := eqNext_get hp
  have r0 := rotL_get (L := P) (a := k) (i := 0) hk (by omega)
  have r1 := rotL_get (L := P) (a := k) (i := 1) hk (by omega)
  rw [Nat.add_zero, Nat.mod_eq_of_lt hk] at r0
  have hl := rotL_len P k (by omega)
  have e : Eqv P (rotL P k) := by
    have := Eqv.of_rot2 (rot2_of (X := P) (j := k / 2) (by omega))
    rwa [show 2 * (k / 2) = k by omega] at this
  refine e.trans ?_
  match hR : rotL P k with
  | [] => rw [hR] at hl; simp at hl; omega
  | [_] => rw [hR] at hl; simp at hl; omega
  | x :: y :: v =>
    rw [hR] at r0 r1
    simp only [List.getElem?_cons_zero, List.getElem?_cons_succ] at r0 r1
    have : x = y := by rw [← r0, ← r1] at h; exact Option.some.inj h
    subst this
    exact Eqv.del [] x v
theorem redStep_odd {P : List Int} {j : Nat} (he : P.length % 2 = 0) (hk : j + 1 < P.length) (hn : NoneTo (eqNext P) (j + 1)) (hp : eqNext P (j + 1) = true) (h2 : j % 2 = 0) :
    4 ≤ P.length ∧ Eqv P ((rotL P j).take 1 ++ (rotL P j).drop 3) := by
  have h := eqNext_get hp
  have h4 : 4 ≤ P.length := by
    rcases Nat.lt_or_ge P.length 4 with h' | h'
    · have hl : P.length = 2 := by omega
      have hj : j = 0 := by omega
      subst hj
      have := hn 0 (by omega)
      unfold eqNext at this
      rw [hl] at h this
      simp at h this
      exact absurd h.symm this
    · exact h'
  refine ⟨h4, ?_⟩
  have r1 := rotL_get (L := P) (a := j) (i := 1) (by omega) (by omega)
  have r2 := rotL_get (L := P) (a := j) (i := 2) (by omega) (by omega)
  rw [Nat.mod_eq_of_lt hk] at r1
  have hl := rotL_len P j (by omega)
  have e : Eqv P (rotL P j) := by
    have := Eqv.of_rot2 (rot2_of (X := P) (j := j / 2) (by omega))
    rwa [show 2 * (j / 2) = j by omega] at this
  refine e.trans ?_
  match hR : rotL P j with
  | [] => rw [hR] at hl; simp at hl; omega
  | [_] => rw [hR] at hl; simp at hl; omega
  | [_, _] => rw [hR] at hl; simp at hl; omega
  | z :: x :: y :: v =>
    rw [hR] at r1 r2
    simp only [List.getElem?_cons_zero, List.getElem?_cons_succ] at r1 r2
    have : x = y := by
      rw [show j + 1 + 1 = j + 2 by omega, ← r1, ← r2] at h
      exact Option.some.inj h
    subst this
    exact Eqv.del [z] x v
theorem redP_of_get : ∀ {r : List Int}, (∀ i, i + 1 < r.length → r[i]? ≠ r[i + 1]?) → RedP r
  | [], _ => trivial
  | [_], _ => trivial
  | a :: b :: r, h => ⟨fun e => h 0 (by simp) (by simp [e]), redP_of_get fun i hi => by
      have := h (i + 1) (by simpa using hi)
      simpa using this⟩
theorem reduceL_of_pair {r : List Int} (he : r.length % 2 = 0) (hp : NoneTo (eqNext r) r.length) : reduceL r = r := by
  have hne : ∀ i, i < r.length → r[i]? ≠ r[(i + 1) % r.length]? := fun i hi e => by
    have := hp i hi
    unfold eqNext at this
    simp [e] at this
  refine reduceL_of_red he (redP_of_get fun i hi => ?_) fun h0 e => ?_
  · have := hne i (by omega)
    rwa [Nat.mod_eq_of_lt hi] at this
  · have := hne (r.length - 1) (by omega)
    rw [show r.length - 1 + 1 = r.length by omega, Nat.mod_self] at this
    rw [List.head?_eq_getElem?, List.getLast?_eq_getElem?] at e
    exact this e.symm
/-- What the reference finds is the program's normal form. -/
theorem normal_of_reduced {L R : List Int} (he : L.length % 2 = 0) (h : Eqv L R) (hp : NoneTo (eqNext R) R.length) : refTo R (R.length / 2) = normalL L := by
  have heR : R.length % 2 = 0 := by rw [← h.len]; exact he
  rw [refTo_best heR, h.normal he, normalL_best, reduceL_of_pair heR hp]
theorem pairI_none {R : List Int} (h : pairI R < 0) : NoneTo (eqNext R) R.length := by
  unfold pairI at h
  rcases firstI_cases (eqNext R) R.length with ⟨_, h'⟩ | ⟨k, _, e, _, _⟩
  · exact h'
  · rw [e] at h; omega
end

section
theorem normalL_idem {L : List Int} (he : L.length % 2 = 0) : normalL (normalL L) = normalL L := ((eqv_normalL he).normal he).symm
theorem normalL_none {L : List Int} (he : L.length % 2 = 0) : NoneTo (eqNext (normalL L)) (normalL L).length := by
  obtain ⟨_, hN⟩ := normalL_len he
  have hid := normalL_idem he
  generalize normalL L = N at hN hid
  rcases firstI_cases (eqNext N) N.length with ⟨_, h⟩ | ⟨k, hk, _, hno, hyes⟩
  · exact h
  · exfalso
    have key : ∃ M, Eqv N M ∧ M.length < N.length := by
      rcases Nat.mod_two_eq_zero_or_one k with h2 | h2
      · refine ⟨_, redStep_even hN hk hyes h2, ?_⟩
        rw [List.length_drop, rotL_len _ _ (by omega)]
        omega
      · obtain ⟨j, rfl⟩ : ∃ j, k = j + 1 := ⟨k - 1, by omega⟩
        obtain ⟨h4, h⟩ := redStep_odd hN hk hno hyes (by omega)
        refine ⟨_, h, ?_⟩
        rw [List.length_append, List.length_take, List.length_drop, rotL_len _ _ (by omega)]
        omega
    obtain ⟨M, hM, hlt⟩ := key
    have heM : M.length % 2 = 0 := by rw [← hM.len]; exact hN
    have := (normalL_len heM).1
    rw [← hM.normal hN, hid] at this
    omega
theorem redB_normalL {L : List Int} (h : wordB L = true) : redB (normalL L) = true := by
  unfold redB pairI
  rw [wordB_normalL h, firstI_none (normalL_none (wordB_even h))]
  rfl
/-- A letter is inserted twice. -/
theorem eqv_insert (L : List Int) (k : Nat) (g : Int) : Eqv (L.take k ++ [g, g] ++ L.drop k) L := by
  have := Eqv.del (L.take k) g (L.drop k)
  rw [List.take_append_drop] at this
  simpa using this
/-- .. so that it stands at the two ends. -/
theorem eqv_ends {x g : Int} {r : List Int} (he : (x :: r).length % 2 = 0) : Eqv ([g] ++ r ++ [x] ++ [g]) (x :: r) := by
  have h1 := Eqv.rot (g :: r) [x, g] (by simpa using he)
  have h2 := Eqv.del [x] g r
  have h3 : Eqv (g :: r ++ [x, g]) (x :: r) := h1.trans h2
  simpa using h3
theorem turnL_map (f : Int → Int) (L : List Int) : tnL (L.map f) = (tnL L).map f := by cases L <;> simp [tnL]
theorem turnL_len (L : List Int) : (tnL L).length = L.length := by cases L <;> simp [tnL]
theorem mem_turnL {L : List Int} {x : Int} (h : x ∈ tnL L) : x ∈ L := by
  cases L with
  | nil => exact h
  | cons a r => simp [tnL] at h ⊢; exact h.symm
theorem eqv_turn_turn {L : List Int} (he : L.length % 2 = 0) : Eqv (tnL (tnL L)) L := by
  match L, he with
  | [], _ => exact Eqv.refl _
  | [_], he => simp at he
  | x :: y :: r, _ =>
    have := Eqv.rot [x, y] r (by simp)
    refine Eqv.symm ?_
    simpa [tnL] using this
theorem eqv_turn_reverse {L : List Int} (he : L.length % 2 = 0) : Eqv (tnL L).reverse (tnL L.reverse) := by
  match L, he with
  | [], _ => exact Eqv.refl _
  | [_], he => simp at he
  | x :: y :: r, _ =>
    obtain ⟨z, s, hz⟩ : ∃ z s, r.reverse ++ [y] = z :: s := by
      cases h : r.reverse with
      | nil => exact ⟨y, [], rfl⟩
      | cons z s => exact ⟨z, s ++ [y], rfl⟩
    have e1 : (tnL (x :: y :: r)).reverse = [x, z] ++ s := by simp [tnL]; exact hz
    have e2 : tnL (x :: y :: r).reverse = s ++ [x, z] := by
      rw [List.reverse_cons, List.reverse_cons, hz]
      simp [tnL]
    rw [e1, e2]
    exact Eqv.rot [x, z] s (by simp)
theorem wordB_turnL {L : List Int} (h : wordB L = true) : wordB (tnL L) = true := by
  obtain ⟨h1, h2, h3⟩ := wordB_iff.1 h
  exact wordB_iff.2 ⟨by rw [turnL_len]; exact h1, by rw [turnL_len]; exact h2, fun x hx => h3 x (mem_turnL hx)⟩
theorem wordB_reverse {L : List Int} (h : wordB L = true) : wordB L.reverse = true := by
  obtain ⟨h1, h2, h3⟩ := wordB_iff.1 h
  exact wordB_iff.2 ⟨by simpa using h1, by simpa using h2, fun x hx => h3 x (by simpa using hx)⟩
theorem validB_mirror {K : Int} {L : List Int} (h : validB K L = true) : validB K (L.map (K - ·)) = true := by
  obtain ⟨k1, k2, k3, k4⟩ := validB_iff.1 h
  obtain ⟨h1, h2, h3⟩ := wordB_iff.1 k3
  refine validB_iff.2 ⟨k1, k2, wordB_iff.2 ⟨by simpa using h1, by simpa using h2, fun x hx => ?_⟩, fun x hx => ?_⟩
  all_goals
    obtain ⟨y, hy, rfl⟩ := List.mem_map.1 hx
    have := h3 y hy
    have := k4 y hy
    omega
theorem validB_turnL {K : Int} {L : List Int} (h : validB K L = true) : validB K (tnL L) = true := by
  obtain ⟨k1, k2, k3, k4⟩ := validB_iff.1 h
  exact validB_iff.2 ⟨k1, k2, wordB_turnL k3, fun x hx => k4 x (mem_turnL hx)⟩
theorem validB_reverse {K : Int} {L : List Int} (h : validB K L = true) : validB K L.reverse = true := by
  obtain ⟨k1, k2, k3, k4⟩ := validB_iff.1 h
  exact validB_iff.2 ⟨k1, k2, wordB_reverse k3, fun x hx => k4 x (by simpa using hx)⟩
theorem mir_mir (K : Int) (L : List Int) : (L.map (K - ·)).map (K - ·) = L := by
  rw [List.map_map]
  have : ((fun x => K - x) ∘ fun x => K - x) = (id : Int → Int) := by
    funext x
    show K - (K - x) = x
    omega
  rw [this, List.map_id]
theorem wordB_insert {L : List Int} {g : Int} (k : Nat) (h : wordB L = true) (hl : L.length ≤ 398) (h0 : 0 ≤ g) (h40 : g ≤ 40) : wordB (L.take k ++ [g, g] ++ L.drop k) = true := by
  obtain ⟨h1, h2, h3⟩ := wordB_iff.1 h
  have hlen : (L.take k ++ [g, g] ++ L.drop k).length = L.length + 2 := by
    simp only [List.length_append, List.length_take, List.length_drop, List.length_cons, List.length_nil]; omega
  refine wordB_iff.2 ⟨by omega, by omega, fun x hx => ?_⟩
  simp only [List.mem_append, List.mem_cons, List.not_mem_nil, or_false, or_self] at hx
  rcases hx with (hx | hx) | hx
  · exact h3 x (List.mem_of_mem_take hx)
  · omega
  · exact h3 x (List.mem_of_mem_drop hx)
theorem wordB_ends {x g : Int} {r : List Int} (h : wordB (x :: r) = true) (hl : (x :: r).length ≤ 398) (h0 : 0 ≤ g) (h40 : g ≤ 40) : wordB ([g] ++ r ++ [x] ++ [g]) = true := by
  obtain ⟨h1, h2, h3⟩ := wordB_iff.1 h
  simp only [List.length_cons] at h1 hl
  refine wordB_iff.2 ⟨by simp; omega, by simp; omega, fun y hy => ?_⟩
  simp only [List.mem_append, List.mem_cons, List.not_mem_nil, or_false] at hy
  rcases hy with ((hy | hy) | hy) | hy
  · omega
  · exact h3 y (by simp [hy])
  · exact h3 y (by simp [hy])
  · omega
theorem validB_word {K : Int} {L : List Int} (h : validB K L = true) : wordB L = true := (validB_iff.1 h).2.2.1
end
end Go.Proofs.YtkjcmppaapbabaaDoor
