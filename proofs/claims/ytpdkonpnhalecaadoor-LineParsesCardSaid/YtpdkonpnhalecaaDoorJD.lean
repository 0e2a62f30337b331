/-
  Plain: decimal numerals read back; cutting a list of bytes at a byte. No walk of the program.
  Plain: a list of bytes split at a byte; the pieces joined again; lists of integers printed and read. No walk of the program.
-/
import Derived.Lib.ItoaNum
import Derived.Lib.ItoaLen
import Derived.Lib.AtoiAll
import Derived.Lib.IndexMore
import Derived.Lib.IndexLaws
import Derived.Lib.Join
import Derived.Lib.SplitLaws
namespace Go.Proofs.YtpdkonpnhalecaaDoor
section
open Go
theorem digit_nat {d : Nat} (h : d < 10) : (UInt8.ofNat (48 + d)).toNat = 48 + d := by
  rw [UInt8.toNat_ofNat']; omega
theorem decDigits_ne (u : Nat) : Lib.decDigits u ≠ [] := by
  rw [Lib.decDigits]
  split
  · simp
  · simp
theorem decDigits_mem (u : Nat) : ∀ b ∈ Lib.decDigits u, 48 ≤ b.toNat ∧ b.toNat ≤ 57 := by
  induction u using Nat.strongRecOn with
  | _ u ih =>
    intro b hb
    rw [Lib.decDigits] at hb
    split at hb
    · rename_i h
      simp only [List.mem_singleton] at hb
      rw [hb, digit_nat h]; omega
    · rename_i h
      rcases List.mem_append.1 hb with hb | hb
      · exact ih (u / 10) (by omega) b hb
      · simp only [List.mem_singleton] at hb
        rw [hb, digit_nat (by omega)]; omega
theorem parse_append (b : List UInt8) : ∀ (a : List UInt8) (acc v : Nat), Lib.parseUint10 acc a = .ok v → Lib.parseUint10 acc (a ++ b) = Lib.parseUint10 v b
  | [], acc, v, h => by
    simp only [Lib.parseUint10] at h
    injection h with h
    subst h; rfl
  | c :: r, acc, v, h => by
    rw [List.cons_append]
    simp only [Lib.parseUint10] at h ⊢
    split at h
    · rename_i h1
      rw [if_pos h1]
      split at h
      · cases h
      · rename_i h2
        rw [if_neg h2]
        split at h
        · cases h
        · rename_i h3
          rw [if_neg h3]
          exact parse_append b r _ v h
    · cases h
theorem parse_digits (u : Nat) : u < 18446744073709551616 → Lib.parseUint10 0 (Lib.decDigits u) = .ok u := by
  induction u using Nat.strongRecOn with
  | _ u ih =>
    intro hu
    rw [Lib.decDigits]
    split
    · rename_i h
      simp only [Lib.parseUint10]
      rw [digit_nat h, if_pos (by omega), if_neg (by omega), if_neg (by omega)]
      congr 1; omega
    · rename_i h
      rw [parse_append _ _ _ _ (ih (u / 10) (by omega) (by omega))]
      simp only [Lib.parseUint10]
      rw [digit_nat (by omega), if_pos (by omega), if_neg (by omega), if_neg (by omega)]
      congr 1; omega
theorem parse_mag (u : Nat) (hu : u < 18446744073709551616) : Lib.parseMag (Lib.decDigits u) = .ok u := by
  unfold Lib.parseMag
  rw [if_neg (decDigits_ne u), parse_digits u hu]
theorem atoi_itoa {x : Int} (h0 : -9223372036854775808 ≤ x) (h1 : x ≤ 9223372036854775807) : Lib.atoiAll (Lib.itoa x) = .ok x := by
  unfold Lib.itoa
  split
  · rename_i h
    unfold Lib.atoiAll
    simp only []
    rw [if_pos (Or.inr (by decide)), parse_mag _ (by omega)]
    simp only []
    rw [if_neg (by intro hh; exact hh.1 (by decide)), if_neg (by omega), if_pos (by decide)]
    congr 1; omega
  · rename_i h
    have hm := parse_mag x.toNat (by omega)
    have hd := decDigits_mem x.toNat
    cases hl : Lib.decDigits x.toNat with
    | nil => exact absurd hl (decDigits_ne _)
    | cons c r =>
      rw [hl] at hm hd
      have hc := hd c (List.mem_cons_self ..)
      unfold Lib.atoiAll
      simp only []
      rw [if_neg (by omega), hm]
      simp only []
      rw [if_neg (by omega), if_neg (by omega), if_neg (by omega)]
      congr 1; omega
theorem itoa_mem {x : Int} : ∀ b ∈ Lib.itoa x, b.toNat = 45 ∨ (48 ≤ b.toNat ∧ b.toNat ≤ 57) := by
  intro b hb
  unfold Lib.itoa at hb
  split at hb
  · rcases List.mem_cons.1 hb with rfl | hb
    · exact .inl (by decide)
    · exact .inr (decDigits_mem _ b hb)
  · exact .inr (decDigits_mem _ b hb)
theorem itoa_not {x : Int} {b : UInt8} (h : b.toNat ≠ 45 ∧ (b.toNat < 48 ∨ 57 < b.toNat)) : b ∉ Lib.itoa x := fun hb => by
  rcases itoa_mem b hb with h1 | h1 <;> omega
theorem idx_at {c : UInt8} {r : List UInt8} : ∀ {h : List UInt8}, c ∉ h → Lib.indexByte (h ++ c :: r) c = (h.length : Int)
  | [], _ => by simp [Lib.indexByte]
  | b :: h, hc => by
    have h1 : c ∉ h := fun e => hc (List.mem_cons_of_mem _ e)
    have h2 : b ≠ c := fun e => hc (by rw [e]; exact List.mem_cons_self ..)
    rw [List.cons_append]
    unfold Lib.indexByte
    rw [idx_at h1, if_neg (by simpa using h2), if_neg (by simp)]
    simp
theorem idx_no {c : UInt8} : ∀ {h : List UInt8}, c ∉ h → Lib.indexByte h c = -1
  | [], _ => rfl
  | b :: h, hc => by
    have h1 : c ∉ h := fun e => hc (List.mem_cons_of_mem _ e)
    have h2 : b ≠ c := fun e => hc (by rw [e]; exact List.mem_cons_self ..)
    unfold Lib.indexByte
    rw [idx_no h1, if_neg (by simpa using h2)]
    rfl
/-- What stands around the first instance. -/
theorem idx_parts {l : List UInt8} {c : UInt8} (h : 0 ≤ Lib.indexByte l c) : l = l.take (Lib.indexByte l c).toNat ++ c :: l.drop ((Lib.indexByte l c).toNat + 1) ∧ (Lib.indexByte l c).toNat < l.length := by
  obtain ⟨o, ho⟩ : ∃ o : Nat, Lib.indexByte l c = o := ⟨(Lib.indexByte l c).toNat, by omega⟩
  have h1 := (Lib.indexByte_some ho).1
  rw [ho, Int.toNat_natCast]
  obtain ⟨h2, h3⟩ := List.getElem?_eq_some_iff.1 h1
  refine ⟨?_, h2⟩
  rw [← h3, ← List.drop_eq_getElem_cons h2, List.take_append_drop]
theorem cut_sound {s : List UInt8} {c : UInt8} (h : (Lib.cut s [c]).2.2 = true) : s = (Lib.cut s [c]).1 ++ c :: (Lib.cut s [c]).2.1 := by
  unfold Lib.cut at h ⊢
  rw [Lib.index_one] at h ⊢
  by_cases h0 : 0 ≤ Lib.indexByte s c
  · rw [if_pos h0]
    exact (idx_parts h0).1
  · rw [if_neg h0] at h
    cases h
theorem cut_at {h r : List UInt8} {c : UInt8} (hc : c ∉ h) : Lib.cut (h ++ c :: r) [c] = (h, r, true) := by
  unfold Lib.cut
  rw [Lib.index_one, idx_at hc, if_pos (by omega)]
  simp
theorem cut_no {s : List UInt8} {c : UInt8} (hc : c ∉ s) : Lib.cut s [c] = (s, [], false) := by
  unfold Lib.cut
  rw [Lib.index_one, idx_no hc, if_neg (by omega)]
theorem cut_le (s : List UInt8) (c : UInt8) : (Lib.cut s [c]).1.length ≤ s.length ∧ (Lib.cut s [c]).2.1.length ≤ s.length := by
  unfold Lib.cut
  split
  · simp only [List.length_take, List.length_drop]; omega
  · simp
/-- What a numeral's reader gives: the number, and whether the text is that number's. -/
def numF (s : List UInt8) : Int × Bool :=
  match Lib.atoiAll s with
  | .ok v => (v, Lib.itoa v == s)
  | .syntax => (0, false)
  | .range => (Lib.atoiSat s, false)
theorem numF_itoa {x : Int} (h0 : -9223372036854775808 ≤ x) (h1 : x ≤ 9223372036854775807) : numF (Lib.itoa x) = (x, true) := by
  unfold numF
  rw [atoi_itoa h0 h1]
  simp
theorem numF_sound {s : List UInt8} (h : (numF s).2 = true) : Lib.itoa (numF s).1 = s := by
  unfold numF at h ⊢
  split at h
  · simpa using h
  · cases h
  · cases h
theorem atoi_bounds {s : List UInt8} {v : Int} (h : Lib.atoiAll s = .ok v) : -9223372036854775808 ≤ v ∧ v ≤ 9223372036854775807 := by
  unfold Lib.atoiAll at h
  split at h
  · cases h
  · simp only [] at h
    split at h
    · cases h
    · cases h
    · split at h
      · cases h
      · split at h
        · cases h
        · injection h with h
          split at h <;> omega
theorem numF_bounds (s : List UInt8) : -9223372036854775808 ≤ (numF s).1 ∧ (numF s).1 ≤ 9223372036854775807 := by
  unfold numF
  split
  · rename_i h; exact atoi_bounds h
  · simp
  · unfold Lib.atoiSat; split <;> simp
end

section
open Go
/-- The pieces of a list of bytes between the bytes c. -/
def splt (c : UInt8) : List UInt8 → List (List UInt8)
  | [] => [[]]
  | b :: l => if b = c then [] :: splt c l else match splt c l with
    | [] => [[b]]
    | p :: ps => (b :: p) :: ps
theorem splt_ne (c : UInt8) : ∀ l, splt c l ≠ []
  | [] => by simp [splt]
  | b :: l => by
    unfold splt
    split
    · simp
    · split <;> simp
theorem splt_hit (c : UInt8) (l : List UInt8) : splt c (c :: l) = [] :: splt c l := by rw [splt, if_pos rfl]
theorem splt_more {b c : UInt8} (h : b ≠ c) {l p : List UInt8} {ps : List (List UInt8)} (hl : splt c l = p :: ps) : splt c (b :: l) = (b :: p) :: ps := by
  rw [splt, if_neg h, hl]
theorem splt_parts {c : UInt8} {r : List UInt8} : ∀ {h : List UInt8}, c ∉ h → splt c (h ++ c :: r) = h :: splt c r
  | [], _ => splt_hit c r
  | b :: h, hc => by
    have h1 : c ∉ h := fun e => hc (List.mem_cons_of_mem _ e)
    have h2 : b ≠ c := fun e => hc (by rw [e]; exact List.mem_cons_self ..)
    rw [List.cons_append]
    exact splt_more h2 (splt_parts h1)
theorem splt_one {c : UInt8} : ∀ {h : List UInt8}, c ∉ h → splt c h = [h]
  | [], _ => rfl
  | b :: h, hc => by
    have h1 : c ∉ h := fun e => hc (List.mem_cons_of_mem _ e)
    have h2 : b ≠ c := fun e => hc (by rw [e]; exact List.mem_cons_self ..)
    exact splt_more h2 (splt_one h1)
theorem join_two (x y : List UInt8) (r : List (List UInt8)) (sep : List UInt8) : Lib.join (x :: y :: r) sep = x ++ sep ++ Lib.join (y :: r) sep := by
  rw [Lib.join_cons, Lib.join_cons]
  simp [Lib.joinTail]
theorem splt_join {c : UInt8} : ∀ {ps : List (List UInt8)}, ps ≠ [] → (∀ p ∈ ps, c ∉ p) → splt c (Lib.join ps [c]) = ps
  | [], h, _ => absurd rfl h
  | [p], _, h => by rw [Lib.join_one]; exact splt_one (h p (List.mem_cons_self ..))
  | p :: q :: r, _, h => by
    rw [join_two, List.append_assoc, List.singleton_append, splt_parts (h p (List.mem_cons_self ..))]
    rw [splt_join (by simp) (fun x hx => h x (List.mem_cons_of_mem _ hx))]
theorem join_splt (c : UInt8) : ∀ l : List UInt8, Lib.join (splt c l) [c] = l
  | [] => by rw [splt, Lib.join_one]
  | b :: l => by
    have ih := join_splt c l
    cases hs : splt c l with
    | nil => exact absurd hs (splt_ne c l)
    | cons p ps =>
      by_cases h : b = c
      · subst h
        rw [splt_hit, hs, join_two, ← hs, ih]
        rfl
      · rw [splt_more h hs]
        rw [hs] at ih
        rw [Lib.join_cons] at ih ⊢
        rw [List.cons_append, ih]
theorem splt_not (c : UInt8) : ∀ l : List UInt8, ∀ p ∈ splt c l, c ∉ p
  | [], p, hp => by simp [splt] at hp; subst hp; simp
  | b :: l, p, hp => by
    have ih := splt_not c l
    cases hs : splt c l with
    | nil => exact absurd hs (splt_ne c l)
    | cons q ps =>
      rw [hs] at ih
      by_cases h : b = c
      · subst h
        rw [splt_hit, hs] at hp
        rcases List.mem_cons.1 hp with rfl | hp
        · simp
        · exact ih p hp
      · rw [splt_more h hs] at hp
        rcases List.mem_cons.1 hp with rfl | hp
        · intro hm
          rcases List.mem_cons.1 hm with rfl | hm
          · exact h rfl
          · exact ih q (List.mem_cons_self ..) hm
        · exact ih p (List.mem_cons_of_mem _ hp)
theorem splt_sub (c : UInt8) : ∀ l : List UInt8, ∀ p ∈ splt c l, ∀ b ∈ p, b ∈ l
  | [], p, hp => by simp [splt] at hp; subst hp; simp
  | b :: l, p, hp => by
    have ih := splt_sub c l
    cases hs : splt c l with
    | nil => exact absurd hs (splt_ne c l)
    | cons q ps =>
      rw [hs] at ih
      by_cases h : b = c
      · subst h
        rw [splt_hit, hs] at hp
        rcases List.mem_cons.1 hp with rfl | hp
        · simp
        · exact fun x hx => List.mem_cons_of_mem _ (ih p hp x hx)
      · rw [splt_more h hs] at hp
        rcases List.mem_cons.1 hp with rfl | hp
        · intro x hx
          rcases List.mem_cons.1 hx with rfl | hx
          · exact List.mem_cons_self ..
          · exact List.mem_cons_of_mem _ (ih q (List.mem_cons_self ..) x hx)
        · exact fun x hx => List.mem_cons_of_mem _ (ih p (List.mem_cons_of_mem _ hp) x hx)
theorem splt_len (c : UInt8) : ∀ l : List UInt8, (splt c l).length = l.count c + 1
  | [] => rfl
  | b :: l => by
    have ih := splt_len c l
    cases hs : splt c l with
    | nil => exact absurd hs (splt_ne c l)
    | cons p ps =>
      by_cases h : b = c
      · subst h
        rw [splt_hit, List.length_cons, ih, List.count_cons_self]
      · rw [splt_more h hs, List.count_cons_of_ne (by simpa using h), ← ih, hs]
        rfl
theorem splt_piece (c : UInt8) : ∀ l : List UInt8, ∀ p ∈ splt c l, p.length ≤ l.length
  | [], p, hp => by simp [splt] at hp; subst hp; simp
  | b :: l, p, hp => by
    have ih := splt_piece c l
    cases hs : splt c l with
    | nil => exact absurd hs (splt_ne c l)
    | cons q ps =>
      rw [hs] at ih
      by_cases h : b = c
      · subst h
        rw [splt_hit, hs] at hp
        rcases List.mem_cons.1 hp with rfl | hp
        · simp
        · have := ih p hp; simp only [List.length_cons]; omega
      · rw [splt_more h hs] at hp
        rcases List.mem_cons.1 hp with rfl | hp
        · have := ih q (List.mem_cons_self ..); simp only [List.length_cons]; omega
        · have := ih p (List.mem_cons_of_mem _ hp); simp only [List.length_cons]; omega
/-- The kit's cutting at the instances of one byte is this. -/
theorem splitK_splt (c : UInt8) : ∀ (k : Nat) (l : List UInt8), l.count c = k → Lib.splitK [c] 0 k l = splt c l
  | 0, l, h => by
    have hc : c ∉ l := by rw [← List.count_eq_zero]; exact h
    rw [splt_one hc]; rfl
  | k + 1, l, h => by
    have hm : c ∈ l := by rw [← List.count_pos_iff]; omega
    obtain ⟨a, b, rfl, hn⟩ : ∃ a b, l = a ++ c :: b ∧ c ∉ a := by
      clear h
      induction l with
      | nil => cases hm
      | cons x l ih =>
        by_cases hx : x = c
        · subst hx; exact ⟨[], l, rfl, by simp⟩
        · have : c ∈ l := by
            rcases List.mem_cons.1 hm with e | e
            · exact absurd e.symm hx
            · exact e
          obtain ⟨a, b, rfl, hn⟩ := ih this
          exact ⟨x :: a, b, rfl, fun e => by rcases List.mem_cons.1 e with e | e; exact hx e.symm; exact hn e⟩
    unfold Lib.splitK
    rw [Lib.index_one, idx_at hn]
    have hne : ¬ ((a.length : Int) == -1) = true := fun e => by have := beq_iff_eq.1 e; omega
    rw [if_neg hne, splt_parts hn]
    have hk : b.count c = k := by
      rw [List.count_append, List.count_cons_self, List.count_eq_zero.2 hn] at h
      omega
    have e1 : (a ++ c :: b).take ((a.length : Int).toNat + 0) = a := by simp
    have e2 : (a ++ c :: b).drop ((a.length : Int).toNat + [c].length) = b := by simp
    rw [e1, e2, splitK_splt c k b hk]
/-- The same over the kit's arrays of bytes. -/
theorem splitB_splt (c : UInt8) (l : List UInt8) : (Lib.splitB ⟨#[c]⟩ 0 (Lib.countB ⟨l.toArray⟩ ⟨#[c]⟩) ⟨l.toArray⟩) = (splt c l).map (fun p => (⟨p.toArray⟩ : ByteArray)) := by
  have h := Lib.splitB_data ⟨#[c]⟩ 0 (Lib.countB ⟨l.toArray⟩ ⟨#[c]⟩) ⟨l.toArray⟩
  have hc : Lib.countB ⟨l.toArray⟩ ⟨#[c]⟩ = l.count c := by
    unfold Lib.countB
    exact Lib.count_one c l
  rw [hc] at h ⊢
  have h2 : Lib.splitK [c] 0 (l.count c) l = splt c l := splitK_splt c _ l rfl
  have h3 : (Lib.splitB ⟨#[c]⟩ 0 (l.count c) ⟨l.toArray⟩).map (·.data.toList) = splt c l := h.trans h2
  rw [← h3, List.map_map]
  conv => lhs; rw [← List.map_id (Lib.splitB ⟨#[c]⟩ 0 (l.count c) ⟨l.toArray⟩)]
  apply List.map_congr_left
  intro x _
  cases x
  simp
/-- A list of integers as the program prints it. -/
def printL (L : List Int) : List UInt8 := if L = [] then [45] else Lib.join (L.map Lib.itoa) [32]
/-- What the pieces of a text say: numbers, if each piece is the numeral of one. -/
def readL : List (List UInt8) → Option (List Int)
  | [] => some []
  | p :: ps => if (numF p).2 then (readL ps).map ((numF p).1 :: ·) else none
def parseL (s : List UInt8) : Option (List Int) := if s = [45] then some [] else readL (splt 32 s)
theorem readL_sound : ∀ {ps : List (List UInt8)} {L : List Int}, readL ps = some L → ps = L.map Lib.itoa ∧ ∀ x ∈ L, -9223372036854775808 ≤ x ∧ x ≤ 9223372036854775807
  | [], L, h => by simp [readL] at h; subst h; simp
  | p :: ps, L, h => by
    unfold readL at h
    split at h
    · rename_i hp
      obtain ⟨M, hM, rfl⟩ := Option.map_eq_some_iff.1 h
      obtain ⟨h1, h2⟩ := readL_sound hM
      refine ⟨by rw [List.map_cons, ← h1, numF_sound hp], ?_⟩
      intro x hx
      rcases List.mem_cons.1 hx with rfl | hx
      · exact numF_bounds p
      · exact h2 x hx
    · cases h
theorem readL_itoa : ∀ {L : List Int}, (∀ x ∈ L, -9223372036854775808 ≤ x ∧ x ≤ 9223372036854775807) → readL (L.map Lib.itoa) = some L
  | [], _ => rfl
  | x :: L, h => by
    have hx := h x (List.mem_cons_self ..)
    rw [List.map_cons]
    unfold readL
    rw [numF_itoa hx.1 hx.2, readL_itoa (fun y hy => h y (List.mem_cons_of_mem _ hy))]
    simp
theorem itoa_ne (x : Int) : Lib.itoa x ≠ [] := by
  unfold Lib.itoa
  split
  · simp
  · exact decDigits_ne _
theorem itoa_dash (x : Int) : Lib.itoa x ≠ [45] := by
  unfold Lib.itoa
  split
  · intro h
    injection h with _ h
    exact decDigits_ne _ h
  · intro h
    have := decDigits_mem x.toNat 45 (by rw [h]; simp)
    simp at this
theorem printL_dash {L : List Int} (h : L ≠ []) : printL L ≠ [45] := by
  unfold printL
  rw [if_neg h]
  cases L with
  | nil => exact absurd rfl h
  | cons x L =>
    rw [List.map_cons, Lib.join_cons]
    intro he
    have h1 := itoa_ne x
    have hl := congrArg List.length he
    rw [List.length_append] at hl
    have h2 : 0 < (Lib.itoa x).length := List.length_pos_iff.2 h1
    simp only [List.length_cons, List.length_nil] at hl
    have h3 : Lib.joinTail [32] (L.map Lib.itoa) = [] := List.eq_nil_of_length_eq_zero (by omega)
    rw [h3, List.append_nil] at he
    exact itoa_dash x he
theorem parseL_print {L : List Int} (h : ∀ x ∈ L, -9223372036854775808 ≤ x ∧ x ≤ 9223372036854775807) : parseL (printL L) = some L := by
  by_cases h0 : L = []
  · subst h0; rfl
  · unfold parseL
    rw [if_neg (printL_dash h0)]
    unfold printL
    rw [if_neg h0, splt_join (by simpa using h0), readL_itoa h]
    intro p hp
    obtain ⟨x, _, rfl⟩ := List.mem_map.1 hp
    exact itoa_not (by decide)
theorem parseL_sound {s : List UInt8} {L : List Int} (h : parseL s = some L) : printL L = s ∧ ∀ x ∈ L, -9223372036854775808 ≤ x ∧ x ≤ 9223372036854775807 := by
  unfold parseL at h
  split at h
  · rename_i hs
    injection h with h
    subst h
    exact ⟨hs.symm, by simp⟩
  · obtain ⟨h1, h2⟩ := readL_sound h
    refine ⟨?_, h2⟩
    unfold printL
    have hne : L ≠ [] := by
      intro e
      subst e
      exact splt_ne 32 s (by simpa using h1)
    rw [if_neg hne, ← h1, join_splt]
end
end Go.Proofs.YtpdkonpnhalecaaDoor
