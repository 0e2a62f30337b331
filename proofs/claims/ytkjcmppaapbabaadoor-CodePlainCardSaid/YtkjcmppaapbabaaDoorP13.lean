/-
  Plain: whether a word can be drawn without crossings, told by places on the axis alone; rotations, the reverse, the mirror image. No walk.
-/
import Derived.Test.YtkjcmppaapbabaaDoorP12
namespace Go.Proofs.YtkjcmppaapbabaaDoor
/-- Places K on the axis draw the word L without crossings. -/
def Places (L : List Int) (K : Nat → Int) : Prop :=
  (∀ i j, i < L.length → j < L.length → i ≠ j → K i ≠ K j) ∧ (∀ i j, i < L.length → j < L.length → lat L i < lat L j → K i < K j) ∧
  ∀ i j, i < L.length → j < L.length → j % 2 = i % 2 → j ≠ i → (inn (K j) (K i) (K ((i + 1) % L.length)) ↔ inn (K ((j + 1) % L.length)) (K i) (K ((i + 1) % L.length)))
def Drawable (L : List Int) : Prop := ∃ K, Places L K
theorem drawable_of {L S : List Int} (h : DrawnR L S) : Drawable L := by
  have bd : ∀ i, i < L.length → 1 ≤ lat S i ∧ lat S i ≤ L.length := fun i hi => by
    have := h.2.1 i hi
    have h2 : manyN L i ≤ L.length := countTo_le _ _
    exact ⟨this.1, by have := this.2.1; omega⟩
  have hn : ∀ k, k < L.length → (k + 1) % L.length < L.length := fun k hk => Nat.mod_lt _ (by omega)
  refine ⟨placeI L S L.length, fun i j hi hj hij e => ?_, fun i j hi hj hl => (place_lt (bd i hi) (bd j hj)).2 (.inl hl), fun i j hi hj hp hne => ?_⟩
  · rcases bef_total h hi hj hij with hb | hb
    · have := (place_lt (bd i hi) (bd j hj)).2 hb; omega
    · have := (place_lt (bd j hj) (bd i hi)).2 hb; omega
  · rw [inn_btw (bd _ hj) (bd _ hi) (bd _ (hn i hi)), inn_btw (bd _ (hn j hj)) (bd _ hi) (bd _ (hn i hi)), ← btw_iff, ← btw_iff, h.2.2 i j hi hj hp hne]
/-- The ranks that places give. -/
def ranksK (L : List Int) (K : Nat → Int) : List Int := (List.range L.length).map fun i => ((1 + countTo (fun m => gateB L i m && decide (K m < K i)) L.length : Nat) : Int)
theorem ranksK_lat {L : List Int} {K : Nat → Int} {i : Nat} (hi : i < L.length) : lat (ranksK L K) i = ((1 + countTo (fun m => gateB L i m && decide (K m < K i)) L.length : Nat) : Int) := by
  apply lat_of
  unfold ranksK
  rw [List.getElem?_map, List.getElem?_range hi]
  rfl
theorem drawn_of {L : List Int} (h : Drawable L) (he : L.length % 2 = 0) : ∃ S, DrawnR L S := by
  obtain ⟨K, k1, k2, k3⟩ := h
  have lt_of : ∀ i j, i < L.length → j < L.length → lat L i = lat L j → K i < K j → lat (ranksK L K) i < lat (ranksK L K) j := fun i j hi hj hg hk => by
    rw [ranksK_lat hi, ranksK_lat hj, gate_eq hg]
    have := countTo_lt (p := fun m => gateB L j m && decide (K m < K i)) (q := fun m => gateB L j m && decide (K m < K j)) (n := L.length) (i := i)
      (fun m _ hm => by simp at hm ⊢; exact ⟨hm.1, by omega⟩) hi (by simp [gateB, hg]; exact hk) (by simp)
    omega
  have bef_k : ∀ i j, i < L.length → j < L.length → i ≠ j → (Bef L (ranksK L K) i j ↔ K i < K j) := fun i j hi hj hij => by
    have hne := k1 i j hi hj hij
    unfold Bef
    rcases Int.lt_trichotomy (lat L i) (lat L j) with h | h | h
    · exact ⟨fun _ => k2 i j hi hj h, fun _ => .inl h⟩
    · constructor
      · rintro (h' | ⟨_, h'⟩)
        · omega
        · rcases Int.lt_or_gt_of_ne hne with hk | hk
          · exact hk
          · have := lt_of j i hj hi h.symm hk; omega
      · exact fun hk => .inr ⟨h, lt_of i j hi hj h hk⟩
    · have := k2 j i hj hi h
      exact ⟨fun h' => by omega, fun h' => by omega⟩
  have hn : ∀ k, k < L.length → (k + 1) % L.length < L.length := fun k hk => Nat.mod_lt _ (by omega)
  have btw_k : ∀ x a b, x < L.length → a < L.length → b < L.length → x ≠ a → x ≠ b → (Btw L (ranksK L K) x a b ↔ inn (K x) (K a) (K b)) := fun x a b hx ha hb h1 h2 => by
    unfold Btw
    rw [bef_k a x ha hx (fun e => h1 e.symm), bef_k x b hx hb h2, bef_k b x hb hx (fun e => h2 e.symm), bef_k x a hx ha h1]
    unfold inn
    omega
  refine ⟨ranksK L K, by simp [ranksK], fun i hi => ⟨?_, ?_, ?_⟩, fun i j hi hj hp hne => ?_⟩
  · rw [ranksK_lat hi]; omega
  · rw [ranksK_lat hi]
    have := countTo_lt (p := fun m => gateB L i m && decide (K m < K i)) (q := gateB L i) (n := L.length) (i := i) (fun m _ hm => by simp at hm; exact hm.1) hi (by simp [gateB]) (by simp)
    unfold manyN
    omega
  · refine countTo_one hi (by simp [bothB]) fun m hm hb => ?_
    unfold bothB at hb
    simp at hb
    apply Classical.byContradiction
    intro hmi
    rcases Int.lt_or_gt_of_ne (k1 m i hm hi hmi) with hk | hk
    · have := lt_of m i hm hi hb.1 hk; omega
    · have := lt_of i m hi hm hb.1.symm hk; omega
  · have hi1 := hn i hi
    have hj1 := hn j hj
    have ei := nxt_cases hi
    have ej := nxt_cases hj
    have a := btw_k j i ((i + 1) % L.length) hj hi hi1 hne (by omega)
    have b := btw_k ((j + 1) % L.length) i ((i + 1) % L.length) hj1 hi hi1 (by omega) (by omega)
    have c := k3 i j hi hj hp hne
    rw [Bool.eq_iff_iff, btw_iff, btw_iff, a, b, c]
theorem ranksOk_iff {L : List Int} (hr : redB L = true) : RanksOk L ↔ Drawable L := by
  have hw : wordB L = true := by unfold redB at hr; simp at hr; exact hr.1
  constructor
  · exact fun h => drawable_of (ranks_drawn h hr)
  · intro h
    obtain ⟨S, hS⟩ := drawn_of h (wordB_even hw)
    exact (ranks_some hr hS).1
theorem lat_rot {L : List Int} {a i : Nat} (ha : a < L.length) (hi : i < L.length) : lat (rotL L a) i = lat L ((a + i) % L.length) := by
  unfold lat
  rw [rotL_get L ha hi]
theorem lat_rev {L : List Int} {i : Nat} (hi : i < L.length) : lat L.reverse i = lat L (L.length - 1 - i) := by
  unfold lat
  rw [List.getElem?_reverse hi]
theorem lat_map {L : List Int} {c : Int} {i : Nat} (hi : i < L.length) : lat (L.map (c - ·)) i = c - lat L i := by
  unfold lat
  rw [List.getElem?_map, List.getElem?_eq_getElem hi]
  rfl
theorem drawable_rot {L : List Int} (he : L.length % 2 = 0) {a : Nat} (ha : a < L.length) (h : Drawable L) : Drawable (rotL L a) := by
  obtain ⟨K, k1, k2, k3⟩ := h
  have hl := rotL_len L a (by omega)
  have hn : ∀ k, (a + k) % L.length < L.length := fun k => Nat.mod_lt _ (by omega)
  have add_eq : ∀ k, k < L.length → (a + k < L.length ∧ (a + k) % L.length = a + k) ∨ (L.length ≤ a + k ∧ (a + k) % L.length = a + k - L.length) := fun k hk => by
    by_cases h : a + k < L.length
    · exact .inl ⟨h, Nat.mod_eq_of_lt h⟩
    · refine .inr ⟨by omega, ?_⟩
      rw [Nat.mod_eq_sub_mod (by omega), Nat.mod_eq_of_lt (by omega)]
  have nx : ∀ k, k < L.length → (a + (k + 1) % L.length) % L.length = ((a + k) % L.length + 1) % L.length := fun k _ => by
    rw [Nat.add_mod_mod, Nat.mod_add_mod]
    congr 1
  refine ⟨fun i => K ((a + i) % L.length), fun i j hi hj hij => ?_, fun i j hi hj hlt => ?_, fun i j hi hj hp hne => ?_⟩
  · rw [hl] at hi hj
    have e1 := add_eq i hi
    have e2 := add_eq j hj
    exact k1 _ _ (hn i) (hn j) (by omega)
  · rw [hl] at hi hj
    rw [lat_rot ha hi, lat_rot ha hj] at hlt
    exact k2 _ _ (hn i) (hn j) hlt
  · rw [hl] at hi hj ⊢
    have e1 := add_eq i hi
    have e2 := add_eq j hj
    show inn (K ((a + j) % L.length)) (K ((a + i) % L.length)) (K ((a + (i + 1) % L.length) % L.length)) ↔ inn (K ((a + (j + 1) % L.length) % L.length)) (K ((a + i) % L.length)) (K ((a + (i + 1) % L.length) % L.length))
    rw [nx i hi, nx j hj]
    exact k3 _ _ (hn i) (hn j) (by omega) (by omega)
theorem inn_symm {x a b : Int} : inn x a b ↔ inn x b a := by unfold inn; omega
theorem drawable_rev {L : List Int} (he : L.length % 2 = 0) (h : Drawable L) : Drawable L.reverse := by
  obtain ⟨K, k1, k2, k3⟩ := h
  have hl : L.reverse.length = L.length := List.length_reverse
  have back : ∀ i, i < L.length → ∃ k, k < L.length ∧ k = L.length - 1 - (i + 1) % L.length ∧ (k + 1) % L.length = L.length - 1 - i ∧ k % 2 = i % 2 := fun i hi => by
    rcases nxt_cases hi with ⟨h1, h2⟩ | ⟨h1, h2⟩
    · refine ⟨L.length - 1 - (i + 1), by omega, by rw [h1], ?_, by omega⟩
      rw [Nat.mod_eq_of_lt (by omega)]; omega
    · refine ⟨L.length - 1, by omega, by rw [h1]; omega, ?_, by omega⟩
      rw [show L.length - 1 + 1 = L.length by omega, Nat.mod_self]; omega
  refine ⟨fun i => K (L.length - 1 - i), fun i j hi hj hij => ?_, fun i j hi hj hlt => ?_, fun i j hi hj hp hne => ?_⟩
  · rw [hl] at hi hj
    exact k1 _ _ (by omega) (by omega) (by omega)
  · rw [hl] at hi hj
    rw [lat_rev hi, lat_rev hj] at hlt
    exact k2 _ _ (by omega) (by omega) hlt
  · rw [hl] at hi hj ⊢
    obtain ⟨k, hk, ek, nk, pk⟩ := back i hi
    obtain ⟨l, hl2, el, nl, pl⟩ := back j hj
    show inn (K (L.length - 1 - j)) (K (L.length - 1 - i)) (K (L.length - 1 - (i + 1) % L.length)) ↔ inn (K (L.length - 1 - (j + 1) % L.length)) (K (L.length - 1 - i)) (K (L.length - 1 - (i + 1) % L.length))
    rw [← ek, ← el]
    have c := k3 k l hk hl2 (by omega) (fun e => by rw [e, nk] at nl; omega)
    rw [nk, nl] at c
    exact ⟨fun h => inn_symm.1 (c.2 (inn_symm.1 h)), fun h => inn_symm.1 (c.1 (inn_symm.1 h))⟩
theorem drawable_mirror {L : List Int} (c : Int) (h : Drawable L) : Drawable (L.map (c - ·)) := by
  obtain ⟨K, k1, k2, k3⟩ := h
  have hl : (L.map (c - ·)).length = L.length := List.length_map _
  refine ⟨fun i => - K i, fun i j hi hj hij => ?_, fun i j hi hj hlt => ?_, fun i j hi hj hp hne => ?_⟩
  · rw [hl] at hi hj
    have := k1 i j hi hj hij
    show -K i ≠ -K j
    omega
  · rw [hl] at hi hj
    rw [lat_map hi, lat_map hj] at hlt
    have := k2 j i hj hi (by omega)
    show -K i < -K j
    omega
  · rw [hl] at hi hj ⊢
    have := k3 i j hi hj hp hne
    show inn (-K j) (-K i) (-K ((i + 1) % L.length)) ↔ inn (-K ((j + 1) % L.length)) (-K i) (-K ((i + 1) % L.length))
    unfold inn at *
    omega
theorem drawable_rot2 {X Y : List Int} (he : X.length % 2 = 0) (h : Rot2 X Y) (hX : Drawable X) : Drawable Y := by
  obtain ⟨j, hj, rfl⟩ := rot2_cases he h
  by_cases h0 : 2 * j < X.length
  · exact drawable_rot he h0 hX
  · obtain rfl : j = 0 := by omega
    simpa [rotL] using hX
theorem drawable_dih {X Y : List Int} (he : X.length % 2 = 0) (h : Dih X Y) (hX : Drawable X) : Drawable Y := by
  rcases h with h | h
  · exact drawable_rot2 he h hX
  · exact drawable_rot2 (by simpa using he) h (drawable_rev he hX)
theorem dih_symm {X Y : List Int} (he : X.length % 2 = 0) (h : Dih X Y) : Dih Y X := by
  rcases h with h | h
  · exact .inl (h.symm he)
  · have h1 := h.symm (by simpa using he)
    have h2 := h1.reverse (by rw [h.len]; simpa using he)
    rw [List.reverse_reverse] at h2
    exact .inr h2
theorem drawable_turn {L : List Int} (he : L.length % 2 = 0) : Drawable (tnL L) ↔ Drawable L := by
  by_cases h0 : L.length = 0
  · have : L = [] := List.eq_nil_of_length_eq_zero h0
    subst this
    exact Iff.rfl
  · rw [turnL_eq]
    constructor
    · intro h
      have h1 := drawable_rot (L := rotL L 1) (by rw [rotL_len _ _ (by omega)]; exact he) (a := L.length - 1) (by rw [rotL_len _ _ (by omega)]; omega) h
      have e : rotL (rotL L 1) (L.length - 1) = L := by
        cases L with
        | nil => rfl
        | cons x r => simp [rotL]
      rwa [e] at h1
    · exact fun h => drawable_rot he (by omega) h
theorem drawable_mirror_iff {L : List Int} (c : Int) : Drawable (L.map (c - ·)) ↔ Drawable L :=
  ⟨fun h => by have := drawable_mirror c h; rwa [mir_mir] at this, drawable_mirror c⟩
theorem drawable_normal {L : List Int} (hr : redB L = true) : Drawable (normalL L) ↔ Drawable L := by
  have hw : wordB L = true := by unfold redB at hr; simp at hr; exact hr.1
  have he := wordB_even hw
  have hp : pairI L < 0 := by unfold redB at hr; simp at hr; exact hr.2
  have hd := normalL_dih he
  rw [reduceL_of_pair he (pairI_none hp)] at hd
  exact ⟨drawable_dih (by rw [hd.len]; exact he) (dih_symm he hd), drawable_dih he hd⟩
theorem errR_drawable {L : List Int} (hr : redB L = true) (h : Drawable L) : errR L = 0 := by
  have hw : wordB L = true := by unfold redB at hr; simp at hr; exact hr.1
  unfold errR
  rw [if_pos (errW_of hw), if_pos hr, if_pos ((ranksOk_iff hr).2 h)]
theorem errR_not {L : List Int} (hr : redB L = true) (h : ¬Drawable L) : errR L = 8 := by
  have hw : wordB L = true := by unfold redB at hr; simp at hr; exact hr.1
  unfold errR
  rw [if_pos (errW_of hw), if_pos hr, if_neg (fun h' => h ((ranksOk_iff hr).1 h'))]
end Go.Proofs.YtkjcmppaapbabaaDoor
