/-
  Plain: Euler's formula on the faces of a valid code: each dart lies on one face, all of one side; places, fingers and outer faces add up. No walk.
  Plain: the faces of a valid code add up as Euler's formula says. No walk.
  Plain: sums over the first faces of a list; how often darts have been met. No walk.
-/
import Derived.Test.YtkjcmppaapbabaaDoorJH
namespace Go.Proofs.YtkjcmppaapbabaaDoor
section
theorem walk1_head {f : Nat → Nat} {k : Nat} {s : List Bool} {x : Nat} (hk : 0 < k) (h : sat s x = false) : ∃ r, (walk1 f k s x).1 = x :: r := by
  cases k with
  | zero => omega
  | succ k => unfold walk1; rw [if_neg (by rw [h]; simp)]; exact ⟨_, rfl⟩
/-- The walks begin with their least darts, in order. -/
theorem walks_heads {f : Nat → Nat} {N : Nat} (inj : ∀ x y, x < N → y < N → f x = f y → x = y) (into : ∀ x, x < N → f x < N) : ∀ (j d : Nat) (s : List Bool), d + j = N → s.length = N → Back f N s → (∀ y, y < d → sat s y = true) →
    (∀ W ∈ walksF f (List.range' d j) s, d ≤ xat W 0 ∧ ∀ y ∈ W, xat W 0 ≤ y) ∧ (walksF f (List.range' d j) s).Pairwise (fun A B => xat A 0 < xat B 0)
  | 0, d, s, _, _, _, _ => ⟨fun W h => (by cases h), List.Pairwise.nil⟩
  | j + 1, d, s, hdj, hl, hB, hs => by
    rw [List.range'_succ]
    unfold walksF
    cases hsd : sat s d with
    | true =>
      rw [if_pos rfl]
      obtain ⟨h1, h2⟩ := walks_heads inj into j (d + 1) s (by omega) hl hB (fun y hy => by
        rcases Nat.lt_or_ge y d with h | h
        · exact hs y h
        · rw [show y = d by omega]; exact hsd)
      exact ⟨fun W hW => ⟨by have := (h1 W hW).1; omega, (h1 W hW).2⟩, h2⟩
    | false =>
      rw [if_neg (by simp)]
      have hdN : d < N := by omega
      obtain ⟨r1, r2, r3, r4, r5, r6⟩ := walk_cyc inj into hB hsd s.length s [] d hl (fun y _ => by simp) rfl (by simp) (by simp) (unN_le s) hdN
      rw [List.reverse_nil, List.nil_append] at r3 r4 r5
      obtain ⟨r, hr⟩ := walk1_head (f := f) (k := s.length) (by omega) hsd
      have hdW := r6 hsd
      obtain ⟨h1, h2⟩ := walks_heads inj into j (d + 1) _ (by omega) r1 r2 (fun y hy => by
        rcases Nat.lt_or_ge y d with h | h
        · exact (r3 y (by omega)).2 (.inl (hs y h))
        · rw [show y = d by omega]; exact (r3 d hdN).2 (.inr hdW))
      have hx0 : xat (walk1 f s.length s d).1 0 = d := by rw [hr]; rfl
      refine ⟨fun W hW => ?_, List.pairwise_cons.2 ⟨fun W hW => ?_, h2⟩⟩
      · rcases List.mem_cons.1 hW with rfl | hW
        · rw [hx0]
          refine ⟨Nat.le_refl _, fun y hy => ?_⟩
          rcases Nat.lt_or_ge y d with h | h
          · have := (r5 y hy).2.1
            rw [hs y h] at this; cases this
          · exact h
        · exact ⟨by have := (h1 W hW).1; omega, (h1 W hW).2⟩
      · rw [hx0]; have := (h1 W hW).1; omega
section
variable {K : Int} {L : List Lt}
/-- The side of a dart: is what lies to its left above the axis? -/
def sdN (L : List Lt) (x : Nat) : Bool := if x < 2 * L.length then dwn L (x / 2 + 1) else x % 2 == 0
theorem dwn_zero (L : List Lt) : dwn L 0 = true := rfl
theorem Good.dwn_end (g : Good K L) : dwn L L.length = true := by unfold dwn; rw [g.even]; rfl
theorem sd_along (g : Good K L) {i : Nat} {b : Bool} (hi : i < L.length) : sdN L (alongN L.length i b) = if b then dwn L (i + 1) else dwn L i := by
  unfold sdN
  rw [if_pos (alongN_lt hi)]
  cases b with
  | true => rw [along_t]; rw [if_pos rfl]; congr 1; omega
  | false =>
    rw [along_f, if_neg (by simp)]
    rcases Nat.eq_zero_or_pos i with h0 | h0
    · subst h0
      rw [show (2 * prevN L.length 0 + 1) / 2 + 1 = L.length by unfold prevN; rw [Nat.mod_eq_of_lt (by omega)]; omega, g.dwn_end]; rfl
    · rw [prevN_pos hi h0]; congr 1; omega
theorem sd_arr (g : Good K L) {i : Nat} {f : Bool} (hi : i < L.length) : sdN L (arrN L.length i f) = if f then dwn L i else dwn L (i + 1) := by
  unfold sdN
  rw [if_pos (arr_lt hi)]
  unfold arrN
  cases f with
  | true =>
    rw [if_pos rfl, if_pos rfl]
    rcases mod_dn hi with ⟨h0, e⟩ | ⟨h0, e⟩
    · rw [e]; subst h0
      rw [show 2 * (L.length - 1) / 2 + 1 = L.length by omega, g.dwn_end]; rfl
    · rw [e]; congr 1; omega
  | false => rw [if_neg (by simp), if_neg (by simp)]; congr 1; omega
theorem sd_right (j : Nat) : sdN L (2 * L.length + 2 * j) = true := by
  unfold sdN; rw [if_neg (by omega)]; simp
theorem sd_left (j : Nat) : sdN L (2 * L.length + 2 * j + 1) = false := by
  unfold sdN; rw [if_neg (by omega)]; simp; omega
theorem Good.side (g : Good K L) (h : flatB L = true) {x : Nat} (hx : x < dartsN L) : sdN L (leftF L (axL L) x) = sdN L x := by
  have hm := g.m_pos
  rcases Nat.lt_or_ge x (2 * L.length) with hl | hl
  · have hi := headN_lt hl
    rw [arr_eq hl]
    generalize headN L.length x = i at hi
    generalize (x % 2 == 0) = f
    rcases g.kinds i hi with hp | hc
    · rw [g.l_pass hp, sd_arr g hi, dwnP hp]
      cases f <;> cases e : dwn L i <;> simp [sd_right, sd_left]
    · rw [g.l_cross hc, sd_arr g hi, sd_along g (isC_lt (g.other hc).2.1)]
      have hs := g.sides h hc
      have h1 := dwnC (L := L) (i := i) (by cases e : isP (la L i) with | false => rfl | true => rw [isP_isC e] at hc; cases hc)
      have h2 := dwnC (L := L) (i := othN L i) (by cases e : isP (la L (othN L i)) with | false => rfl | true => have := (g.other hc).2.1; rw [isP_isC e] at this; cases this)
      rw [h1, h2, hs]
      simp
  · obtain ⟨j, hj, e⟩ : ∃ j, j < (axL L).length ∧ (x = 2 * L.length + 2 * j ∨ x = 2 * L.length + 2 * j + 1) := by
      unfold dartsN at hx
      refine ⟨(x - 2 * L.length) / 2, by omega, by omega⟩
    rcases e with rfl | rfl
    · have hax := ax_pass (L := L) (j := (j + 1) % (axL L).length) (Nat.mod_lt _ hm)
      rw [l_right, sd_along g hax.2, dwnP hax.1, sd_right]
      cases dwn L (xat (axL L) ((j + 1) % (axL L).length)) <;> simp
    · have hax := ax_pass (L := L) hj
      rw [l_left, sd_along g hax.2, dwnP hax.1, sd_left]
      cases dwn L (xat (axL L) j) <;> simp
/-- What the walks are. -/
theorem Good.parts (g : Good K L) : (∀ W ∈ walksL L, W ≠ [] ∧ W.Nodup ∧ ∀ y ∈ W, y < dartsN L ∧ leftF L (axL L) y ∈ W) ∧ (∀ d, d < dartsN L → ∃ W ∈ walksL L, d ∈ W) ∧ (walksL L).Pairwise (fun A B => ∀ y, y ∈ A → y ∉ B) ∧
    (∀ W ∈ walksL L, ∀ y ∈ W, xat W 0 ≤ y) ∧ (walksL L).Pairwise (fun A B => xat A 0 < xat B 0) := by
  have hB : Back (leftF L (axL L)) (dartsN L) (List.replicate (dartsN L) false) := by
    intro y hy hf
    have := g.into hy
    simp [sat, this] at hf
  obtain ⟨h1, h2, h3⟩ := walks_parts g.inj (fun x hx => g.into hx) (List.range (dartsN L)) (List.replicate (dartsN L) false) (by simp) hB (by simp)
  obtain ⟨h4, h5⟩ := walks_heads g.inj (fun x hx => g.into hx) (dartsN L) 0 (List.replicate (dartsN L) false) (by omega) (by simp) hB (fun y hy => by omega)
  rw [← List.range_eq_range'] at h4 h5
  refine ⟨fun W hW => ⟨(h1 W hW).1, (h1 W hW).2.1, fun y hy => ⟨((h1 W hW).2.2 y hy).1, ((h1 W hW).2.2 y hy).2.2⟩⟩, fun d hd => ?_, h3, fun W hW => (h4 W hW).2, h5⟩
  rcases h2 d (by simpa using hd) with h | h
  · simp [sat, hd] at h
  · exact h
theorem Good.perm (g : Good K L) : (walksL L).flatten.Perm (List.range (dartsN L)) := by
  obtain ⟨h1, h2, h3, _⟩ := g.parts
  have hn : (walksL L).flatten.Nodup := by
    unfold List.Nodup
    rw [List.pairwise_flatten]
    exact ⟨fun W hW => (h1 W hW).2.1, h3.imp fun hab x hx y hy (e : x = y) => hab x hx (e ▸ hy)⟩
  rw [List.perm_ext_iff_of_nodup hn List.nodup_range]
  intro a
  rw [List.mem_flatten, List.mem_range]
  constructor
  · rintro ⟨W, hW, ha⟩; exact ((h1 W hW).2.2 a ha).1
  · intro ha
    obtain ⟨W, hW, h⟩ := h2 a ha
    exact ⟨W, hW, h⟩
/-- A walk keeps to one side. -/
theorem Good.walk_side (g : Good K L) (h : flatB L = true) {W : List Nat} (hW : W ∈ walksL L) {x y : Nat} (hx : x ∈ W) (hy : y ∈ W) : sdN L x = sdN L y :=
  walks_const (f := leftF L (axL L)) (N := dartsN L) (h := sdN L) (fun x hx => g.into hx) (fun x hx => g.side h hx) (List.range (dartsN L)) _ (by simp) W hW x hx y hy
theorem xat_mem {W : List Nat} (h : W ≠ []) : xat W 0 ∈ W := by
  cases W with
  | nil => exact absurd rfl h
  | cons a r => simp [xat]
/-- A walk begins on the string. -/
theorem Good.head_lt (g : Good K L) {W : List Nat} (hW : W ∈ walksL L) : xat W 0 < 2 * L.length := by
  obtain ⟨h1, _, _, h4, _⟩ := g.parts
  have hm := xat_mem (h1 W hW).1
  rcases Nat.lt_or_ge (xat W 0) (2 * L.length) with h | h
  · exact h
  · obtain ⟨a, b⟩ := (h1 W hW).2.2 _ hm
    have := g.axis h a
    have := h4 W hW _ b
    omega
end
end

section
def nI (X : List Nat) : List Int := X.map (fun (x : Nat) => (x : Int))
theorem nI_append (X Y : List Nat) : nI (X ++ Y) = nI X ++ nI Y := List.map_append
section
variable {K : Int} {L : List Lt}
def plN (K : Int) (L : List Lt) (x : Nat) : Nat := if x < 2 * L.length then 0 else (pieceP K L (axL L) ((x - 2 * L.length) / 2)).length
def fgN (K : Int) (L : List Lt) (x : Nat) : Nat := if x < 2 * L.length then 0 else (pieceF K L (axL L) ((x - 2 * L.length) / 2)).length
def ouB (L : List Lt) (x : Nat) : Bool := decide (2 * L.length ≤ x) && ((x - 2 * L.length) / 2 == (axL L).length - 1)
theorem fold_face (W : List Nat) : ∀ F : Fc, (W.foldl (fcAdd K L (axL L)) F).above = F.above ∧ (W.foldl (fcAdd K L (axL L)) F).darts = F.darts ++ nI (W.filter (fun x => decide (x < 2 * L.length))) ∧
    (W.foldl (fcAdd K L (axL L)) F).places.length = F.places.length + (W.map (plN K L)).sum ∧ (W.foldl (fcAdd K L (axL L)) F).fingers.length = F.fingers.length + (W.map (fgN K L)).sum ∧ (W.foldl (fcAdd K L (axL L)) F).outer = (F.outer || W.any (ouB L)) := by
  induction W with
  | nil => intro F; simp [nI]
  | cons x W ih =>
    intro F
    rw [List.foldl_cons]
    obtain ⟨h1, h2, h3, h4, h5⟩ := ih (fcAdd K L (axL L) F x)
    rw [h1, h2, h3, h4, h5]
    by_cases hx : x < 2 * L.length
    · have hx2 : ¬ 2 * L.length ≤ x := by omega
      unfold fcAdd plN fgN ouB
      simp [hx, hx2, nI]
    · have hx2 : 2 * L.length ≤ x := by omega
      unfold fcAdd plN fgN ouB
      simp only [hx, hx2, if_false, List.map_cons, List.sum_cons, List.any_cons, decide_true, Bool.true_and]
      refine ⟨True.intro, by simp [hx], ?_, ?_, by rw [Bool.or_assoc]⟩
      · split <;> simp <;> omega
      · split <;> simp <;> omega
theorem face_parts (W : List Nat) : (faceOf K L (axL L) W).above = dwn L (xat W 0 / 2 + 1) ∧ (faceOf K L (axL L) W).darts = nI (W.filter (fun x => decide (x < 2 * L.length))) ∧
    (faceOf K L (axL L) W).places.length = (W.map (plN K L)).sum ∧ (faceOf K L (axL L) W).fingers.length = (W.map (fgN K L)).sum ∧ (faceOf K L (axL L) W).outer = W.any (ouB L) := by
  obtain ⟨h1, h2, h3, h4, h5⟩ := fold_face (K := K) (L := L) W (fc0 L (xat W 0))
  unfold faceOf
  rw [h1, h2, h3, h4, h5]
  unfold fc0
  simp
/-- The lengths of the pieces of the axis. -/
theorem span_len (g r t : Int) : (spanP g r t).length = 1 + (t - g).toNat := by unfold spanP flatPl; simp [upto_len]; omega
theorem Good.gate_bd (g : Good K L) {j : Nat} (hj : j < (axL L).length) : 0 ≤ (la L (xat (axL L) j)).gate ∧ (la L (xat (axL L) j)).gate ≤ K := by
  have h := ax_pass hj
  exact g.gates _ h.2 h.1
theorem Good.gate_le (g : Good K L) {j : Nat} (hj : j + 1 < (axL L).length) : (la L (xat (axL L) j)).gate ≤ (la L (xat (axL L) (j + 1))).gate := by
  rcases g.next hj with h | h <;> omega
theorem Good.inner (g : Good K L) : ∀ m, m < (axL L).length → sumN (fun j => (pieceF K L (axL L) j).length) m = ((la L (xat (axL L) m)).gate - (la L (xat (axL L) 0)).gate).toNat ∧ (la L (xat (axL L) 0)).gate ≤ (la L (xat (axL L) m)).gate
  | 0, _ => by simp [sumN]
  | m + 1, h => by
    obtain ⟨h1, h2⟩ := g.inner m (by omega)
    have h3 := g.gate_le h
    unfold sumN
    rw [h1]
    unfold pieceF
    rw [if_pos h, upto_len, Nat.mod_eq_of_lt h]
    omega
theorem Good.fing_sum (g : Good K L) : sumN (fun j => (pieceF K L (axL L) j).length) (axL L).length = K.toNat := by
  have hm := g.m_pos
  obtain ⟨m, e⟩ : ∃ m, (axL L).length = m + 1 := ⟨(axL L).length - 1, by omega⟩
  obtain ⟨h1, h2⟩ := g.inner m (by omega)
  have b0 := g.gate_bd hm
  have b1 := g.gate_bd (j := m) (by omega)
  rw [e]
  unfold sumN
  rw [h1]
  unfold pieceF
  rw [if_neg (by omega), e, Nat.mod_self]
  rw [List.length_append, upto_len, upto_len]
  omega
theorem place_len {j : Nat} (hj : j < (axL L).length) : (pieceP K L (axL L) j).length = (pieceF K L (axL L) j).length + (if j + 1 = (axL L).length then 2 else 1) := by
  unfold pieceP pieceF
  by_cases h : j + 1 < (axL L).length
  · rw [if_pos h, if_pos h, span_len, upto_len, if_neg (by omega)]; omega
  · rw [if_neg h, if_neg h, List.length_append, List.length_append, span_len, span_len, upto_len, upto_len, if_pos (by omega)]; omega
theorem sumN_ext {f h : Nat → Nat} : ∀ {n : Nat}, (∀ j, j < n → f j = h j) → sumN f n = sumN h n := fun e => sumN_congr e
theorem sumN_add1 (f : Nat → Nat) : ∀ n, sumN (fun j => f j + 1) n = sumN f n + n
  | 0 => rfl
  | n + 1 => by unfold sumN; rw [sumN_add1 f n]; omega
theorem Good.place_sum (g : Good K L) : sumN (fun j => (pieceP K L (axL L) j).length) (axL L).length = K.toNat + (axL L).length + 1 := by
  have hm := g.m_pos
  have hf := g.fing_sum
  obtain ⟨m, e⟩ : ∃ m, (axL L).length = m + 1 := ⟨(axL L).length - 1, by omega⟩
  rw [e] at hf ⊢
  unfold sumN at hf ⊢
  rw [sumN_ext (h := fun j => (pieceF K L (axL L) j).length + 1) (fun j hj => by rw [place_len (by omega), if_neg (by omega)]), sumN_add1, place_len (by omega), if_pos (by omega)]
  omega
/-- A sum over all darts of one side. -/
theorem sum_range (f : Nat → Nat) : ∀ n, ((List.range n).map f).sum = sumN f n
  | 0 => rfl
  | n + 1 => by rw [List.range_succ, List.map_append, List.sum_append, sum_range f n]; simp [sumN]
theorem sumN_pairs (b : Nat) (h : Nat → Nat) (s : Bool) {f : Nat → Nat} (h0 : ∀ x, x < b → f x = 0) (h1 : ∀ j, f (b + 2 * j) = if s then h j else 0) (h2 : ∀ j, f (b + 2 * j + 1) = if s then 0 else h j) : ∀ m, sumN f (b + 2 * m) = sumN h m
  | 0 => by
    have key : ∀ n, n ≤ b → sumN f n = 0 := by
      intro n
      induction n with
      | zero => intro _; rfl
      | succ n ih => intro hn; unfold sumN; rw [ih (by omega), h0 n (by omega)]
    exact key b (Nat.le_refl _)
  | m + 1 => by
    rw [show b + 2 * (m + 1) = (b + 2 * m + 1) + 1 by omega]
    unfold sumN
    show sumN f (b + 2 * m) + f (b + 2 * m) + f (b + 2 * m + 1) = _
    rw [sumN_pairs b h s h0 h1 h2 m, h1, h2]
    cases s <;> simp
def sel (s : Bool) (L : List Lt) (h : Nat → Nat) (x : Nat) : Nat := if sdN L x = s then h x else 0
theorem Good.side_sum (g : Good K L) (s : Bool) (h h' : Nat → Nat) (h0 : ∀ x, x < 2 * L.length → h x = 0) (h1 : ∀ j, h (2 * L.length + 2 * j) = h' j) (h2 : ∀ j, h (2 * L.length + 2 * j + 1) = h' j) :
    ((walksL L).map (fun W => (W.map (sel s L h)).sum)).sum = sumN h' (axL L).length := by
  have e : ((walksL L).map (fun W => (W.map (sel s L h)).sum)).sum = ((walksL L).flatten.map (sel s L h)).sum := by
    generalize walksL L = Ws
    induction Ws with
    | nil => rfl
    | cons W Ws ih => rw [List.map_cons, List.sum_cons, ih, List.flatten_cons, List.map_append, List.sum_append]
  rw [e, (g.perm.map (sel s L h)).sum_nat, sum_range]
  unfold dartsN
  refine sumN_pairs (2 * L.length) h' s ?_ ?_ ?_ _
  · intro x hx; unfold sel; rw [h0 x hx]; simp
  · intro j; unfold sel; rw [sd_right, h1]; cases s <;> simp
  · intro j; unfold sel; rw [sd_left, h2]; cases s <;> simp
theorem sel_walk (g : Good K L) (hf : flatB L = true) {W : List Nat} (hW : W ∈ walksL L) (s : Bool) (h : Nat → Nat) : (W.map (sel s L h)).sum = if sdN L (xat W 0) = s then (W.map h).sum else 0 := by
  have hne := (g.parts.1 W hW).1
  have hs : ∀ x ∈ W, sdN L x = sdN L (xat W 0) := fun x hx => g.walk_side hf hW hx (xat_mem hne)
  have hc : W.map (sel s L h) = W.map (fun x => if sdN L (xat W 0) = s then h x else 0) := by
    refine List.map_congr_left fun x hx => ?_
    unfold sel; rw [hs x hx]
  rw [hc]
  by_cases e : sdN L (xat W 0) = s
  · simp only [e, if_true]
  · simp only [e, if_false]
    clear hc hs hne hW e
    induction W with
    | nil => rfl
    | cons x W ih => rw [List.map_cons, List.sum_cons, ih]
theorem walk_above (g : Good K L) {W : List Nat} (hW : W ∈ walksL L) : (faceOf K L (axL L) W).above = sdN L (xat W 0) := by
  rw [(face_parts W).1]
  unfold sdN; rw [if_pos (g.head_lt hW)]
/-- A sum over the faces of one side. -/
def fcSum (s : Bool) (h : Fc → Nat) (Fs : List Fc) : Nat := (Fs.map (fun F => if F.above = s then h F else 0)).sum
theorem Good.face_sum (g : Good K L) (hf : flatB L = true) (s : Bool) (hF : Fc → Nat) (h h' : Nat → Nat) (hh : ∀ W ∈ walksL L, hF (faceOf K L (axL L) W) = (W.map h).sum) (h0 : ∀ x, x < 2 * L.length → h x = 0) (h1 : ∀ j, h (2 * L.length + 2 * j) = h' j) (h2 : ∀ j, h (2 * L.length + 2 * j + 1) = h' j) :
    fcSum s hF (facesL K L) = sumN h' (axL L).length := by
  rw [← g.side_sum s h h' h0 h1 h2]
  unfold fcSum facesL
  rw [List.map_map]
  congr 1
  refine List.map_congr_left fun W hW => ?_
  rw [sel_walk g hf hW]
  show (if (faceOf K L (axL L) W).above = s then hF (faceOf K L (axL L) W) else 0) = _
  rw [walk_above g hW, hh W hW]
theorem Good.places_all (g : Good K L) (hf : flatB L = true) (s : Bool) : fcSum s (fun F => F.places.length) (facesL K L) = K.toNat + (axL L).length + 1 := by
  rw [← g.place_sum]
  refine g.face_sum hf s _ (plN K L) _ (fun W _ => (face_parts W).2.2.1) (fun x hx => ?_) (fun j => ?_) (fun j => ?_)
  · unfold plN; rw [if_pos hx]
  · unfold plN; rw [if_neg (by omega)]; congr 2; omega
  · unfold plN; rw [if_neg (by omega)]; congr 2; omega
theorem Good.fingers_all (g : Good K L) (hf : flatB L = true) (s : Bool) : fcSum s (fun F => F.fingers.length) (facesL K L) = K.toNat := by
  rw [← g.fing_sum]
  refine g.face_sum hf s _ (fgN K L) _ (fun W _ => (face_parts W).2.2.2.1) (fun x hx => ?_) (fun j => ?_) (fun j => ?_)
  · unfold fgN; rw [if_pos hx]
  · unfold fgN; rw [if_neg (by omega)]; congr 2; omega
  · unfold fgN; rw [if_neg (by omega)]; congr 2; omega
theorem sumN_one_at {k : Nat} : ∀ {m : Nat}, k < m → sumN (fun j => if j = k then 1 else 0) m = 1
  | 0, h => by omega
  | m + 1, h => by
    unfold sumN
    by_cases e : m = k
    · subst e
      rw [if_pos rfl]
      have : ∀ n, n ≤ m → sumN (fun j => if j = m then 1 else 0) n = 0 := by
        intro n
        induction n with
        | zero => intro _; rfl
        | succ n ih => intro hn; unfold sumN; rw [ih (by omega), if_neg (by omega)]
      rw [this m (Nat.le_refl _)]
    · rw [if_neg e, sumN_one_at (by omega)]
/-- An outer face has one outer dart. -/
theorem sum_any {W : List Nat} {p : Nat → Bool} (hn : W.Nodup) (hu : ∀ x ∈ W, ∀ y ∈ W, p x = true → p y = true → x = y) : (W.map (fun x => if p x = true then 1 else 0)).sum = if W.any p = true then 1 else 0 := by
  induction W with
  | nil => rfl
  | cons x W ih =>
    rw [List.nodup_cons] at hn
    rw [List.map_cons, List.sum_cons, List.any_cons, ih hn.2 (fun a ha b hb => hu a (by simp [ha]) b (by simp [hb]))]
    cases e : p x with
    | false => simp
    | true =>
      have : W.any p = false := by
        rw [List.any_eq_false]
        intro y hy hq
        exact hn.1 (by rw [hu x (by simp) y (by simp [hy]) e hq]; exact hy)
      rw [this]; rfl
theorem Good.outer_all (g : Good K L) (hf : flatB L = true) (s : Bool) : fcSum s (fun F => if F.outer = true then 1 else 0) (facesL K L) = 1 := by
  have hm := g.m_pos
  refine Eq.trans ?_ (sumN_one_at (k := (axL L).length - 1) (m := (axL L).length) (by omega))
  refine g.face_sum hf s _ (fun x => if ouB L x = true then 1 else 0) _ (fun W hW => ?_) (fun x hx => ?_) (fun j => ?_) (fun j => ?_)
  · show (if (faceOf K L (axL L) W).outer = true then 1 else 0) = _
    rw [(face_parts W).2.2.2.2, sum_any (g.parts.1 W hW).2.1]
    intro x hx y hy hp hq
    have hs := g.walk_side hf hW hx hy
    unfold ouB at hp hq
    simp only [Bool.and_eq_true, decide_eq_true_eq, beq_iff_eq] at hp hq
    unfold sdN at hs
    rw [if_neg (by omega), if_neg (by omega)] at hs
    rw [Bool.eq_iff_iff] at hs
    simp only [beq_iff_eq] at hs
    omega
  · show (if ouB L x = true then 1 else 0) = 0
    unfold ouB; rw [decide_eq_false (by omega)]; rfl
  · show (if ouB L (2 * L.length + 2 * j) = true then 1 else 0) = _
    unfold ouB
    rw [decide_eq_true (by omega), show (2 * L.length + 2 * j - 2 * L.length) / 2 = j by omega]; simp
  · show (if ouB L (2 * L.length + 2 * j + 1) = true then 1 else 0) = _
    unfold ouB
    rw [decide_eq_true (by omega), show (2 * L.length + 2 * j + 1 - 2 * L.length) / 2 = j by omega]; simp
/-- One face: its darts. -/
theorem Good.face_darts (g : Good K L) (hf : flatB L = true) {F : Fc} (hF : F ∈ facesL K L) : ∃ D : List Nat, F.darts = nI D ∧ D ≠ [] ∧ ∀ x ∈ D, xat D 0 ≤ x ∧ x < 2 * L.length ∧ dwn L (x / 2 + 1) = F.above := by
  unfold facesL at hF
  rw [List.mem_map] at hF
  obtain ⟨W, hW, rfl⟩ := hF
  obtain ⟨h1, _, _, h4, _⟩ := g.parts
  have hl := g.head_lt hW
  have hmem := xat_mem (h1 W hW).1
  obtain ⟨r, hr⟩ : ∃ r, W = xat W 0 :: r := by
    cases W with
    | nil => exact absurd rfl (h1 _ hW).1
    | cons a r => exact ⟨r, rfl⟩
  have h0 : xat (W.filter (fun x => decide (x < 2 * L.length))) 0 = xat W 0 := by
    rw [hr]
    rw [List.filter_cons_of_pos (by rw [decide_eq_true_eq]; exact hl)]; rfl
  refine ⟨_, (face_parts W).2.1, ?_, fun x hx => ?_⟩
  · rw [hr, List.filter_cons_of_pos (by rw [decide_eq_true_eq]; exact hl)]; simp
  · rw [List.mem_filter] at hx
    have hx2 : x < 2 * L.length := by simpa using hx.2
    refine ⟨by rw [h0]; exact h4 W hW x hx.1, hx2, ?_⟩
    rw [walk_above g hW, ← g.walk_side hf hW hx.1 hmem]
    unfold sdN; rw [if_pos hx2]
theorem Good.head_dart (g : Good K L) {W : List Nat} (hW : W ∈ walksL L) : (faceOf K L (axL L) W).darts[0]? = some ((xat W 0 : Nat) : Int) := by
  obtain ⟨h1, _, _, h4, _⟩ := g.parts
  have hl := g.head_lt hW
  rw [(face_parts W).2.1]
  cases W with
  | nil => exact absurd rfl (h1 _ hW).1
  | cons a r =>
    have : xat (a :: r) 0 = a := rfl
    rw [this] at hl ⊢
    rw [List.filter_cons_of_pos (by simpa using hl)]; rfl
/-- The heads grow. -/
theorem Good.heads (g : Good K L) {i : Nat} {F G : Fc} {a b : Int} (hF : (facesL K L)[i]? = some F) (hG : (facesL K L)[i + 1]? = some G) (ha : F.darts[0]? = some a) (hb : G.darts[0]? = some b) : a < b := by
  obtain ⟨_, _, _, _, h5⟩ := g.parts
  unfold facesL at hF hG
  rw [List.getElem?_map] at hF hG
  cases e : (walksL L)[i]? with
  | none => rw [e] at hF; cases hF
  | some W =>
    cases e2 : (walksL L)[i + 1]? with
    | none => rw [e2] at hG; cases hG
    | some V =>
      rw [e] at hF; rw [e2] at hG
      cases hF; cases hG
      rw [g.head_dart (List.mem_of_getElem? e)] at ha
      rw [g.head_dart (List.mem_of_getElem? e2)] at hb
      cases ha; cases hb
      obtain ⟨l1, e1⟩ := List.getElem?_eq_some_iff.1 e
      obtain ⟨l2, e3⟩ := List.getElem?_eq_some_iff.1 e2
      have := List.pairwise_iff_getElem.1 h5 i (i + 1) l1 l2 (by omega)
      rw [e1, e3] at this
      omega
/-- All darts of the faces, in a row. -/
def allD (Fs : List Fc) : List Int := (Fs.map (fun F => F.darts)).flatten
theorem Good.all_darts (g : Good K L) : (allD (facesL K L)).Perm (nI (List.range (2 * L.length))) := by
  have e : allD (facesL K L) = nI ((walksL L).flatten.filter (fun x => decide (x < 2 * L.length))) := by
    unfold allD facesL
    rw [List.map_map]
    generalize walksL L = Ws
    induction Ws with
    | nil => rfl
    | cons W Ws ih =>
      rw [List.map_cons, List.flatten_cons, ih, List.flatten_cons, List.filter_append, nI_append]
      show (faceOf K L (axL L) W).darts ++ _ = _
      rw [(face_parts W).2.1]
  rw [e]
  unfold nI
  refine List.Perm.map _ ((g.perm.filter _).trans ?_)
  unfold dartsN
  rw [List.range_add, List.filter_append]
  have h1 : (List.range (2 * L.length)).filter (fun x => decide (x < 2 * L.length)) = List.range (2 * L.length) := by
    rw [List.filter_eq_self]; intro x hx; simpa using hx
  have h2 : ((List.range (2 * (axL L).length)).map (2 * L.length + ·)).filter (fun x => decide (x < 2 * L.length)) = [] := by
    rw [List.filter_eq_nil_iff]; intro x hx; rw [List.mem_map] at hx; obtain ⟨y, _, rfl⟩ := hx; simp
  rw [h1, h2, List.append_nil]
theorem Good.dart_count (g : Good K L) {d : Nat} (hd : d < 2 * L.length) : (allD (facesL K L)).count (d : Int) = 1 := by
  rw [List.perm_iff_count.1 g.all_darts]
  have hn : (nI (List.range (2 * L.length))).Nodup := by
    unfold nI
    exact List.Pairwise.map _ (fun a b h e => h (by omega)) List.nodup_range
  rw [hn.count, if_pos]
  unfold nI
  rw [List.mem_map]
  exact ⟨d, by simpa using hd, rfl⟩
theorem faces_len (h : flatB L = true) : (facesL K L).length = pN L L.length + cN L L.length / 2 + 2 := by
  unfold flatB at h
  simp only [beq_iff_eq] at h
  unfold facesL; rw [List.length_map, h]
end
end

section
def sdW (F : Fc) : Nat := if F.above = true then 1 else 1000
def sumS (h : Fc → Nat) (Fs : List Fc) (i : Nat) : Nat := ((Fs.take i).map (fun F => sdW F * h F)).sum
theorem sumS_zero (h : Fc → Nat) (Fs : List Fc) : sumS h Fs 0 = 0 := rfl
theorem sumS_succ {h : Fc → Nat} {Fs : List Fc} {i : Nat} {F : Fc} (hF : Fs[i]? = some F) : sumS h Fs (i + 1) = sumS h Fs i + sdW F * h F := by
  unfold sumS
  rw [List.take_add_one, hF, List.map_append, List.sum_append]; simp
theorem sumS_le {h : Fc → Nat} {Fs : List Fc} {i : Nat} : sumS h Fs i ≤ sumS h Fs Fs.length := by
  unfold sumS
  rw [List.take_length]
  conv => rhs; rw [← List.take_append_drop i Fs]
  rw [List.map_append, List.sum_append]; omega
theorem sumS_all (h : Fc → Nat) (Fs : List Fc) : sumS h Fs Fs.length = fcSum true h Fs + 1000 * fcSum false h Fs := by
  unfold sumS fcSum
  rw [List.take_length]
  induction Fs with
  | nil => rfl
  | cons F Fs ih =>
    rw [List.map_cons, List.sum_cons, List.map_cons, List.sum_cons, List.map_cons, List.sum_cons, ih]
    unfold sdW
    cases F.above <;> simp <;> omega
def dTo (Fs : List Fc) (i : Nat) : List Int := allD (Fs.take i)
theorem dTo_succ {Fs : List Fc} {i : Nat} {F : Fc} (hF : Fs[i]? = some F) : dTo Fs (i + 1) = dTo Fs i ++ F.darts := by
  unfold dTo allD
  rw [List.take_add_one, hF, List.map_append, List.flatten_append]; simp
theorem dTo_le (Fs : List Fc) (i : Nat) : (dTo Fs i).length ≤ (allD Fs).length := by
  unfold dTo allD
  conv => rhs; rw [← List.take_append_drop i Fs]
  rw [List.map_append, List.flatten_append, List.length_append]; omega
theorem dTo_all (Fs : List Fc) : dTo Fs Fs.length = allD Fs := by unfold dTo; rw [List.take_length]
def cntL (N : Nat) (X : List Int) : List Int := (List.range N).map (fun (d : Nat) => ((X.count (d : Int) : Nat) : Int))
theorem cntL_at {N : Nat} {X : List Int} {d : Nat} (h : d < N) : (cntL N X)[d]? = some ((X.count (d : Int) : Nat) : Int) := by
  unfold cntL
  rw [List.getElem?_map, List.getElem?_range h]; rfl
theorem cntL_nil (N : Nat) : cntL N [] = List.replicate N 0 := by
  unfold cntL
  apply List.ext_getElem?
  intro d
  rw [List.getElem?_map]
  rcases Nat.lt_or_ge d N with h | h
  · rw [List.getElem?_range h, List.getElem?_replicate, if_pos h]; rfl
  · rw [List.getElem?_eq_none (by simpa using h), List.getElem?_replicate, if_neg (by omega)]; rfl
theorem cntL_push {N x : Nat} {X : List Int} : (cntL N X).set x (((X.count (x : Int) : Nat) : Int) + 1) = cntL N (X ++ [(x : Int)]) := by
  unfold cntL
  apply List.ext_getElem?
  intro d
  rw [List.getElem?_set, List.getElem?_map, List.getElem?_map, List.length_map, List.length_range]
  rcases Nat.lt_or_ge d N with h | h
  · rw [List.getElem?_range h]
    by_cases e : x = d
    · subst e
      rw [if_pos rfl, if_pos h]
      simp
    · rw [if_neg e]
      show some (((X.count (d : Int) : Nat) : Int)) = some ((((X ++ [(x : Int)]).count (d : Int) : Nat) : Int))
      rw [List.count_append]
      have : List.count (d : Int) [(x : Int)] = 0 := List.count_eq_zero.2 (by simp; omega)
      rw [this]; rfl
  · rw [List.getElem?_eq_none (by simpa using h)]
    by_cases e : x = d
    · subst e
      rw [if_pos rfl, if_neg (by omega)]; rfl
    · rw [if_neg e]; rfl
section
variable {K : Int} {L : List Lt}
theorem Good.alldn (g : Good K L) : (allD (facesL K L)).length = 2 * L.length := by
  rw [g.all_darts.length_eq]; unfold nI; simp
end
end
end Go.Proofs.YtkjcmppaapbabaaDoor
