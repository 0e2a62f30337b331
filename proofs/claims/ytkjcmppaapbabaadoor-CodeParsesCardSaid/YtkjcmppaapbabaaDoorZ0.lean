/-
  Plain: decimal numerals read back; cutting a list of bytes at a byte. No walk of the program.
-/
import Derived.Lib.ItoaNum
import Derived.Lib.ItoaLen
import Derived.Lib.AtoiAll
import Derived.Lib.IndexMore
import Derived.Lib.IndexLaws
namespace Go.Proofs.YtkjcmppaapbabaaDoor
open Go
theorem digit_nat {d : Nat} (h : d < 10) : (UInt8.ofNat (48 + d)).toNat = 48 + d := by
  rw [UInt8.toNat_ofNat']; omega
theorem decDigits_ne (u : Nat) : Lib.decDigits u ≠ [] := by
  rw [Lib.decDigits]
  split
  · simp
  · simp
theorem decDigits_mem (u : Nat) : ∀ b ∈ Lib.decDigits u, 48 ≤ b.toNat ∧ b.toNat ≤ 57 := by
  induction u using Nat.strongRecOn with
  | _ u ih =>
    intro b hb
    rw [Lib.decDigits] at hb
    split at hb
    · rename_i h
      simp only [List.mem_singleton] at hb
      rw [hb, digit_nat h]; omega
    · rename_i h
      rcases List.mem_append.1 hb with hb | hb
      · exact ih (u / 10) (by omega) b hb
      · simp only [List.mem_singleton] at hb
        rw [hb, digit_nat (by omega)]; omega
theorem parse_append (b : List UInt8) : ∀ (a : List UInt8) (acc v : Nat), Lib.parseUint10 acc a = .ok v → Lib.parseUint10 acc (a ++ b) = Lib.parseUint10 v b
  | [], acc, v, h => by
    simp only [Lib.parseUint10] at h
    injection h with h
    subst h; rfl
  | c :: r, acc, v, h => by
    rw [List.cons_append]
    simp only [Lib.parseUint10] at h ⊢
    split at h
    · rename_i h1
      rw [if_pos h1]
      split at h
      · cases h
      · rename_i h2
        rw [if_neg h2]
        split at h
        · cases h
        · rename_i h3
          rw [if_neg h3]
          exact parse_append b r _ v h
    · cases h
theorem parse_digits (u : Nat) : u < 18446744073709551616 → Lib.parseUint10 0 (Lib.decDigits u) = .ok u := by
  induction u using Nat.strongRecOn with
  | _ u ih =>
    intro hu
    rw [Lib.decDigits]
    split
    · rename_i h
      simp only [Lib.parseUint10]
      rw [digit_nat h, if_pos (by omega), if_neg (by omega), if_neg (by omega)]
      congr 1; omega
    · rename_i h
      rw [parse_append _ _ _ _ (ih (u / 10) (by omega) (by omega))]
      simp only [Lib.parseUint10]
      rw [digit_nat (by omega), if_pos (by omega), if_neg (by omega), if_neg (by omega)]
      congr 1; omega
theorem parse_mag (u : Nat) (hu : u < 18446744073709551616) : Lib.parseMag (Lib.decDigits u) = .ok u := by
  unfold Lib.parseMag
  rw [if_neg (decDigits_ne u), parse_digits u hu]
theorem atoi_itoa {x : Int} (h0 : -9223372036854775808 ≤ x) (h1 : x ≤ 9223372036854775807) : Lib.atoiAll (Lib.itoa x) = .ok x := by
  unfold Lib.itoa
  split
  · rename_i h
    unfold Lib.atoiAll
    simp only []
    rw [if_pos (Or.inr (by decide)), parse_mag _ (by omega)]
    simp only []
    rw [if_neg (by intro hh; exact hh.1 (by decide)), if_neg (by omega), if_pos (by decide)]
    congr 1; omega
  · rename_i h
    have hm := parse_mag x.toNat (by omega)
    have hd := decDigits_mem x.toNat
    cases hl : Lib.decDigits x.toNat with
    | nil => exact absurd hl (decDigits_ne _)
    | cons c r =>
      rw [hl] at hm hd
      have hc := hd c (List.mem_cons_self ..)
      unfold Lib.atoiAll
      simp only []
      rw [if_neg (by omega), hm]
      simp only []
      rw [if_neg (by omega), if_neg (by omega), if_neg (by omega)]
      congr 1; omega
theorem itoa_mem {x : Int} : ∀ b ∈ Lib.itoa x, b.toNat = 45 ∨ (48 ≤ b.toNat ∧ b.toNat ≤ 57) := by
  intro b hb
  unfold Lib.itoa at hb
  split at hb
  · rcases List.mem_cons.1 hb with rfl | hb
    · exact .inl (by decide)
    · exact .inr (decDigits_mem _ b hb)
  · exact .inr (decDigits_mem _ b hb)
theorem itoa_not {x : Int} {b : UInt8} (h : b.toNat ≠ 45 ∧ (b.toNat < 48 ∨ 57 < b.toNat)) : b ∉ Lib.itoa x := fun hb => by
  rcases itoa_mem b hb with h1 | h1 <;> omega
theorem idx_at {c : UInt8} {r : List UInt8} : ∀ {h : List UInt8}, c ∉ h → Lib.indexByte (h ++ c :: r) c = (h.length : Int)
  | [], _ => by simp [Lib.indexByte]
  | b :: h, hc => by
    have h1 : c ∉ h := fun e => hc (List.mem_cons_of_mem _ e)
    have h2 : b ≠ c := fun e => hc (by rw [e]; exact List.mem_cons_self ..)
    rw [List.cons_append]
    unfold Lib.indexByte
    rw [idx_at h1, if_neg (by simpa using h2), if_neg (by simp)]
    simp
theorem idx_no {c : UInt8} : ∀ {h : List UInt8}, c ∉ h → Lib.indexByte h c = -1
  | [], _ => rfl
  | b :: h, hc => by
    have h1 : c ∉ h := fun e => hc (List.mem_cons_of_mem _ e)
    have h2 : b ≠ c := fun e => hc (by rw [e]; exact List.mem_cons_self ..)
    unfold Lib.indexByte
    rw [idx_no h1, if_neg (by simpa using h2)]
    rfl
/-- What stands around the first instance. -/
theorem idx_parts {l : List UInt8} {c : UInt8} (h : 0 ≤ Lib.indexByte l c) : l = l.take (Lib.indexByte l c).toNat ++ c :: l.drop ((Lib.indexByte l c).toNat + 1) ∧ (Lib.indexByte l c).toNat < l.length := by
  obtain ⟨o, ho⟩ : ∃ o : Nat, Lib.indexByte l c = o := ⟨(Lib.indexByte l c).toNat, by omega⟩
  have h1 := (Lib.indexByte_some ho).1
  rw [ho, Int.toNat_natCast]
  obtain ⟨h2, h3⟩ := List.getElem?_eq_some_iff.1 h1
  refine ⟨?_, h2⟩
  rw [← h3, ← List.drop_eq_getElem_cons h2, List.take_append_drop]
theorem cut_sound {s : List UInt8} {c : UInt8} (h : (Lib.cut s [c]).2.2 = true) : s = (Lib.cut s [c]).1 ++ c :: (Lib.cut s [c]).2.1 := by
  unfold Lib.cut at h ⊢
  rw [Lib.index_one] at h ⊢
  by_cases h0 : 0 ≤ Lib.indexByte s c
  · rw [if_pos h0]
    exact (idx_parts h0).1
  · rw [if_neg h0] at h
    cases h
theorem cut_at {h r : List UInt8} {c : UInt8} (hc : c ∉ h) : Lib.cut (h ++ c :: r) [c] = (h, r, true) := by
  unfold Lib.cut
  rw [Lib.index_one, idx_at hc, if_pos (by omega)]
  simp
theorem cut_no {s : List UInt8} {c : UInt8} (hc : c ∉ s) : Lib.cut s [c] = (s, [], false) := by
  unfold Lib.cut
  rw [Lib.index_one, idx_no hc, if_neg (by omega)]
theorem cut_le (s : List UInt8) (c : UInt8) : (Lib.cut s [c]).1.length ≤ s.length ∧ (Lib.cut s [c]).2.1.length ≤ s.length := by
  unfold Lib.cut
  split
  · simp only [List.length_take, List.length_drop]; omega
  · simp
/-- What a numeral's reader gives: the number, and whether the text is that number's. -/
def numF (s : List UInt8) : Int × Bool :=
  match Lib.atoiAll s with
  | .ok v => (v, Lib.itoa v == s)
  | .syntax => (0, false)
  | .range => (Lib.atoiSat s, false)
theorem numF_itoa {x : Int} (h0 : -9223372036854775808 ≤ x) (h1 : x ≤ 9223372036854775807) : numF (Lib.itoa x) = (x, true) := by
  unfold numF
  rw [atoi_itoa h0 h1]
  simp
theorem numF_sound {s : List UInt8} (h : (numF s).2 = true) : Lib.itoa (numF s).1 = s := by
  unfold numF at h ⊢
  split at h
  · simpa using h
  · cases h
  · cases h
theorem atoi_bounds {s : List UInt8} {v : Int} (h : Lib.atoiAll s = .ok v) : -9223372036854775808 ≤ v ∧ v ≤ 9223372036854775807 := by
  unfold Lib.atoiAll at h
  split at h
  · cases h
  · simp only [] at h
    split at h
    · cases h
    · cases h
    · split at h
      · cases h
      · split at h
        · cases h
        · injection h with h
          split at h <;> omega
theorem numF_bounds (s : List UInt8) : -9223372036854775808 ≤ (numF s).1 ∧ (numF s).1 ≤ 9223372036854775807 := by
  unfold numF
  split
  · rename_i h; exact atoi_bounds h
  · simp
  · unfold Lib.atoiSat; split <;> simp
end Go.Proofs.YtkjcmppaapbabaaDoor
