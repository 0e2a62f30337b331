/-
  Plain laws of words: the normal form of a word is a word; forgetting; winding numbers of one curve. No walk.
-/
import Derived.Test.YtpdkonpnhalecaaDoorP7
import Derived.Test.YtpdkonpnhalecaaDoorB10
namespace Go.Proofs.YtpdkonpnhalecaaDoor
theorem mem_dih {X Y : List Int} {x : Int} (h : Dih X Y) (hx : x ∈ Y) : x ∈ X := by
  rcases h with ⟨U, V, hX, rfl, _⟩ | ⟨U, V, hX, rfl, _⟩
  · rw [hX]; simp at hx ⊢; exact hx.symm
  · have : x ∈ X.reverse := by rw [hX]; simp at hx ⊢; exact hx.symm
    simpa using this
theorem reduceL_even {L : List Int} (he : L.length % 2 = 0) : (reduceL L).length % 2 = 0 := by rw [reduceL_KK, KK_len]; exact he
theorem normalL_dih {L : List Int} (he : L.length % 2 = 0) : Dih (reduceL L) (normalL L) := (bestL_isMin (reduceL_even he)).1
theorem mem_normalL {L : List Int} {x : Int} (he : L.length % 2 = 0) (h : x ∈ normalL L) : x ∈ L := mem_reduceL (mem_dih (normalL_dih he) h)
theorem normalL_len {L : List Int} (he : L.length % 2 = 0) : (normalL L).length ≤ L.length ∧ (normalL L).length % 2 = 0 := by
  rw [(normalL_dih he).len]
  exact ⟨reduceL_len L, reduceL_even he⟩
theorem wordB_iff {L : List Int} : wordB L = true ↔ L.length % 2 = 0 ∧ L.length ≤ 400 ∧ ∀ x ∈ L, 0 ≤ x ∧ x ≤ 40 := by
  unfold wordB inB
  simp [and_assoc]
theorem validB_iff {K : Int} {L : List Int} : validB K L = true ↔ 0 ≤ K ∧ K ≤ 40 ∧ wordB L = true ∧ ∀ x ∈ L, x ≤ K := by
  unfold validB
  simp [and_assoc]
theorem wordB_normalL {L : List Int} (h : wordB L = true) : wordB (normalL L) = true := by
  obtain ⟨h1, h2, h3⟩ := wordB_iff.1 h
  obtain ⟨l1, l2⟩ := normalL_len h1
  exact wordB_iff.2 ⟨l2, by omega, fun x hx => h3 x (mem_normalL h1 hx)⟩
theorem validB_normalL {K : Int} {L : List Int} (h : validB K L = true) : validB K (normalL L) = true := by
  obtain ⟨h1, h2, h3, h4⟩ := validB_iff.1 h
  exact validB_iff.2 ⟨h1, h2, wordB_normalL h3, fun x hx => h4 x (mem_normalL (wordB_iff.1 h3).1 hx)⟩
theorem validB_drop {K f : Int} {L : List Int} (h : validB K L = true) (h1 : 1 ≤ f) (h2 : f ≤ K) : validB (K - 1) (L.map (dropG f)) = true := by
  obtain ⟨k1, k2, k3, k4⟩ := validB_iff.1 h
  obtain ⟨w1, w2, w3⟩ := wordB_iff.1 k3
  refine validB_iff.2 ⟨by omega, by omega, wordB_iff.2 ⟨by simpa using w1, by simpa using w2, fun x hx => ?_⟩, fun x hx => ?_⟩
  · obtain ⟨y, hy, rfl⟩ := List.mem_map.1 hx
    have := w3 y hy
    unfold dropG; split <;> omega
  · obtain ⟨y, hy, rfl⟩ := List.mem_map.1 hx
    have := w3 y hy
    have := k4 y hy
    unfold dropG; split <;> omega
theorem validB_forget {K f : Int} {L : List Int} (h : validB K L = true) (h1 : 1 ≤ f) (h2 : f ≤ K) : validB (K - 1) (normalL (L.map (dropG f))) = true := validB_normalL (validB_drop h h1 h2)
theorem errF_of {K : Int} {L : List Int} (h : validB K L = true) : errF K L = 0 := by
  have := (wordB_iff.1 (validB_iff.1 h).2.2.1).2.1
  unfold errF
  rw [if_neg (by omega), h]; rfl
theorem errW_of {L : List Int} (h : wordB L = true) : errW L = 0 := by
  have := (wordB_iff.1 h).2.1
  unfold errW
  rw [if_neg (by omega), h]; rfl
theorem errG_of {K f : Int} {L : List Int} (h : validB K L = true) (h1 : 1 ≤ f) (h2 : f ≤ K) : errG K L f = 0 := by
  unfold errG
  rw [if_pos (errF_of h), if_pos ⟨h1, h2⟩]
theorem wordB_even {L : List Int} (h : wordB L = true) : L.length % 2 = 0 := (wordB_iff.1 h).1
theorem validB_even {K : Int} {L : List Int} (h : validB K L = true) : L.length % 2 = 0 := wordB_even (validB_iff.1 h).2.2.1
theorem dropG_swap {f g : Int} (h : f < g) (L : List Int) : (L.map (dropG g)).map (dropG f) = (L.map (dropG f)).map (dropG (g - 1)) := by
  rw [List.map_map, List.map_map]
  apply List.map_congr_left
  intro x _
  show dropG f (dropG g x) = dropG (g - 1) (dropG f x)
  unfold dropG
  by_cases h1 : g ≤ x
  · rw [if_pos h1, if_pos (by omega), if_pos (show f ≤ x by omega), if_pos (by omega)]
  · rw [if_neg h1]
    by_cases h2 : f ≤ x
    · rw [if_pos h2, if_neg (by omega)]
    · rw [if_neg h2, if_neg (by omega)]
theorem forget_both {f g : Int} {L : List Int} (h : f < g) (he : L.length % 2 = 0) :
    normalL ((normalL (L.map (dropG g))).map (dropG f)) = normalL ((normalL (L.map (dropG f))).map (dropG (g - 1))) := by
  rw [normalL_map _ (by simpa using he), normalL_map _ (by simpa using he), dropG_swap h]
theorem eqv_zeros : ∀ (n : Nat) (L : List Int), L.length = 2 * n → (∀ x ∈ L, x = 0) → Eqv L []
  | 0, L, h, _ => by
    have : L = [] := List.eq_nil_of_length_eq_zero (by omega)
    subst this
    exact Eqv.refl _
  | n + 1, L, h, hz => by
    match L, h, hz with
    | [], h, _ => simp at h
    | [_], h, _ => simp at h; omega
    | x :: y :: r, h, hz =>
      have hx := hz x (by simp)
      have hy := hz y (by simp)
      subst hx; subst hy
      exact (Eqv.del [] 0 r).trans (eqv_zeros n r (by simp at h; omega) fun z hz' => hz z (by simp [hz']))
theorem normalL_zeros {L : List Int} (h : validB 0 L = true) : normalL L = [] := by
  obtain ⟨_, _, h3, h4⟩ := validB_iff.1 h
  obtain ⟨w1, w2, w3⟩ := wordB_iff.1 h3
  have := eqv_zeros (L.length / 2) L (by omega) (fun x hx => by have := w3 x hx; have := h4 x hx; omega)
  rw [this.normal w1]
  rfl

/-- The winding number as it is met letter by letter. -/
def wl (f : Int) : Int → List Int → Int
  | _, [] => 0
  | s, g :: r => (if g < f then s else 0) + wl f (-s) r
theorem wl_neg (f : Int) : ∀ (L : List Int) (s : Int), wl f (-s) L = - wl f s L
  | [], _ => rfl
  | g :: r, s => by
    rw [wl, wl, wl_neg f r s, wl_neg f r (-s), wl_neg f r s]
    split <;> omega
theorem wl_app (f : Int) (v : List Int) : ∀ (u : List Int) (s : Int), wl f s (u ++ v) = wl f s u + (if u.length % 2 = 0 then wl f s v else - wl f s v)
  | [], s => by simp [wl]
  | g :: u, s => by
    rw [List.cons_append, wl, wl, wl_app f v u (-s), wl_neg f v s, List.length_cons]
    generalize (if g < f then s else 0) = t
    rcases Nat.mod_two_eq_zero_or_one u.length with h | h
    · rw [if_pos h, if_neg (by omega)]; omega
    · rw [if_neg (by omega), if_pos (by omega)]; omega
theorem wl_one (f s g : Int) : wl f s [g] = if g < f then s else 0 := by simp [wl]
theorem windI_wl (L : List Int) (f : Int) : windI L f = wl f 1 L := by
  have h : ∀ k, k ≤ L.length → sumTo (windAt L f) k = wl f 1 (L.take k) := by
    intro k
    induction k with
    | zero => intro _; rfl
    | succ k ih =>
      intro hk
      have hx : L[k]? = some (L[k]'(by omega)) := List.getElem?_eq_getElem _
      obtain ⟨x, hxe⟩ : ∃ x, L[k]'(by omega) = x := ⟨_, rfl⟩
      rw [hxe] at hx
      rw [sumTo_succ, ih (by omega), List.take_add_one, hx]
      show _ = wl f 1 (L.take k ++ [x])
      rw [wl_app, wl_one, List.length_take, Nat.min_eq_left (by omega)]
      by_cases hf : x < f
      · rw [windAt_yes hx hf, if_pos hf]
        rcases Nat.mod_two_eq_zero_or_one k with h | h
        · rw [if_pos h]; omega
        · rw [if_neg (by omega)]; omega
      · rw [windAt_no hx hf, if_neg hf]
        split <;> omega
  have := h L.length (Nat.le_refl _)
  rw [List.take_length] at this
  exact this
theorem wl_rev (f : Int) : ∀ L : List Int, wl f 1 L.reverse = if L.length % 2 = 0 then - wl f 1 L else wl f 1 L
  | [] => by simp [wl]
  | a :: r => by
    rw [List.reverse_cons, wl_app, wl_rev f r, wl_one, List.length_reverse, List.length_cons, wl, wl_neg]
    generalize (if a < f then (1 : Int) else 0) = t
    rcases Nat.mod_two_eq_zero_or_one r.length with h | h
    · rw [if_pos h, if_pos h, if_neg (by omega)]; omega
    · rw [if_neg (by omega), if_neg (by omega), if_pos (by omega)]; omega
theorem wl_eqv {x y : List Int} (h : Eqv x y) : x.length % 2 = 0 → ∃ s : Int, (s = 1 ∨ s = -1) ∧ ∀ f, wl f 1 y = s * wl f 1 x := by
  induction h with
  | refl => intro _; exact ⟨1, .inl rfl, fun f => by omega⟩
  | symm h ih =>
    intro he
    obtain ⟨s, hs, e⟩ := ih (by rw [h.len]; exact he)
    refine ⟨s, hs, fun f => ?_⟩
    rw [e f]
    rcases hs with rfl | rfl <;> omega
  | trans h _ h1 h2 =>
    intro he
    obtain ⟨s, hs, e⟩ := h1 he
    obtain ⟨t, ht, e'⟩ := h2 (by rw [← h.len]; exact he)
    refine ⟨t * s, ?_, fun f => by rw [e', e, Int.mul_assoc]⟩
    rcases hs with rfl | rfl <;> rcases ht with rfl | rfl <;> simp
  | del u g v =>
    intro _
    refine ⟨1, .inl rfl, fun f => ?_⟩
    rw [wl_app, wl_app, wl, wl, Int.neg_neg]
    split <;> split <;> omega
  | rot u v hu =>
    intro he
    rw [List.length_append] at he
    refine ⟨1, .inl rfl, fun f => ?_⟩
    rw [wl_app, wl_app, if_pos hu, if_pos (by omega)]; omega
  | rev x =>
    intro he
    exact ⟨-1, .inr rfl, fun f => by rw [wl_rev, if_pos he]; omega⟩
theorem windsL_eqv {x y : List Int} (h : Eqv x y) (he : x.length % 2 = 0) (N : Nat) : windsL y N = windsL x N ∨ windsL y N = (windsL x N).map (fun z => -z) := by
  obtain ⟨s, hs, e⟩ := wl_eqv h he
  unfold windsL
  rw [List.map_map]
  rcases hs with rfl | rfl
  · exact .inl (List.map_congr_left fun t _ => by rw [windI_wl, windI_wl, e]; omega)
  · exact .inr (List.map_congr_left fun t _ => by show _ = -windI x _; rw [windI_wl, windI_wl, e]; omega)
theorem windsL_rev {x : List Int} (he : x.length % 2 = 0) (N : Nat) : windsL x.reverse N = (windsL x N).map (fun z => -z) := by
  unfold windsL
  rw [List.map_map]
  exact List.map_congr_left fun t _ => by show _ = -windI x _; rw [windI_wl, windI_wl, wl_rev, if_pos he]
theorem count_wind (L : List Int) (f : Int) (k : Nat) : ((countTo (ltAt L f) k : Nat) : Int) % 2 = sumTo (windAt L f) k % 2 := by
  induction k with
  | zero => rfl
  | succ k ih =>
    rw [sumTo_succ]
    cases h : L[k]? with
    | none =>
      rw [countTo_no (by unfold ltAt; rw [h])]
      have : windAt L f k = 0 := by unfold windAt; rw [h]
      rw [this]; omega
    | some x =>
      by_cases hf : x < f
      · rw [countTo_yes (by rw [ltAt_of h]; simpa using hf), windAt_yes h hf]
        omega
      · rw [countTo_no (by rw [ltAt_of h]; simpa using hf), windAt_no h hf]
        omega
theorem odd_wind (L : List Int) (f : Int) : countTo (ltAt L f) L.length % 2 = 1 ↔ windI L f % 2 = 1 := by
  have := count_wind L f L.length
  unfold windI
  omega
theorem insTo_wind {x y : List Int} (h : ∀ f, windI x f % 2 = windI y f % 2) (k : Nat) : insTo x k = insTo y k := by
  induction k with
  | zero => rfl
  | succ k ih =>
    have := h ((k : Int) + 1)
    rw [insTo, insTo, ih]
    congr 1
    by_cases e : countTo (ltAt x ((k : Int) + 1)) x.length % 2 = 1
    · rw [if_pos e, if_pos ((odd_wind _ _).2 (by rw [← this]; exact (odd_wind _ _).1 e))]
    · rw [if_neg e, if_neg (fun h' => e ((odd_wind _ _).2 (by rw [this]; exact (odd_wind _ _).1 h')))]
theorem insTo_eqv {x y : List Int} (h : Eqv x y) (he : x.length % 2 = 0) (k : Nat) : insTo x k = insTo y k := by
  obtain ⟨s, hs, e⟩ := wl_eqv h he
  refine insTo_wind (fun f => ?_) k
  rw [windI_wl, windI_wl, e]
  rcases hs with rfl | rfl <;> omega
end Go.Proofs.YtpdkonpnhalecaaDoor
