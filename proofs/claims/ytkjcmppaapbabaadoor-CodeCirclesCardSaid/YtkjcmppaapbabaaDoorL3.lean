/-
  Contracts of the document's Other and left. Conditions: the code's letters read; indexes lie within.
-/
import Derived.Test.YtkjcmppaapbabaaDoorL2
namespace Go.Proofs.YtkjcmppaapbabaaDoor
open Go.RowKit

def othP (L : List Lt) (i j : Nat) : Bool := j != i && isC (la L j) && (la L j).id == (la L i).id
theorem oth_hit {L : List Lt} {i k : Nat} (h : NoneTo (othP L i) k) (hk : othP L i k = true) (hn : k < L.length) : othN L i = k := by
  have := find_hit h hk hn
  show (List.find? (othP L i) _).getD i = k
  rw [this]; rfl
theorem oth_none {L : List Lt} {i : Nat} (h : NoneTo (othP L i) L.length) : othN L i = i := by
  have := find_none h
  show (List.find? (othP L i) _).getD i = i
  rw [this]; rfl
set_option maxHeartbeats 800000 in
theorem ref_Other (K : Int) (i : Nat) (A : Option Addr) (n c : Nat) (L : List Lt) (w : World) (hA : Lets w A n L) (hi : i < n) :
    Calls Tryd.prog 148 #[.agg #[.int .i64 K, .slice A n c], .int .i64 i] w fun e w' => e = .returned (.int .i64 (othN L i)) ∧ Below w.heap.size w w' := by
  have hle := hA.le
  have HL := Lib.hid hA.len
  have hb := (Below.refl w.heap.size w).alloc (Nat.le_refl _) (.cells #[.int .i64 K, .slice A n c] 24)
  have hA' := hA.alloc (.cells #[.int .i64 K, .slice A n c] 24)
  obtain ⟨g, o, rfl, hg, hy, hyok⟩ := hA'.at_ hi
  go_enter Tryd.func148, Tryd.ntmps148
  go_wp2
  go_loopw [5] (fun v wr => ∃ k : Nat, k ≤ n ∧ v = .int .i64 k ∧ Hid (NoneTo (othP L i) k) ∧ Drawn (w.alloc (.cells #[.int .i64 K, .slice (some ⟨g, o, none⟩) n c] 24)) wr) (fun v _ => n - (intOf v).toNat)
  case atStart => exact ⟨0, Nat.zero_le _, rfl, Lib.hid (NoneTo.zero _), Drawn.refl _⟩
  case round =>
    obtain ⟨k, hk, rfl, hno, nd, rfl⟩ := hrel
    by_cases hlt : k < n
    · obtain ⟨hx, hok⟩ := hA'.also hlt
      obtain ⟨h0, h1, h2, h3, h4, h5⟩ := hx
      obtain ⟨_, _, _, y3, _, _⟩ := hy
      by_cases hne : k = i
      · have hd : ((k : Int) != (i : Int)) = false := by simp [hne]
        have hs := Lib.hid (hno.out.succ (show othP L i k = false by unfold othP; simp [hne]))
        clear hno hne
        go_wp2_with fail
        go_quiet (fail)
        go_wp2_with fail
        go_roundw
        case rel => exact ⟨k + 1, by omega, by go_num, hs, drawn1 _ _⟩
        case measure => simp [intOf]; omega
      · have hd : ((k : Int) != (i : Int)) = true := by simp; omega
        by_cases hp : (la L k).kind = 2
        · by_cases hq : (la L k).id = (la L i).id
          · have hf := Lib.hid (show ((othN L i : Nat) : Int) = k by rw [oth_hit hno.out (by unfold othP; simp [hne, isC_t hp, hq]) (by rw [HL.out]; exact hlt)])
            clear hno hne
            rw [hq] at h3
            go_wp2_with fail
            go_quiet (fail)
            go_wp2_with fail
            go_ret
            exact ⟨ret_int hf.out.symm, below_drewN (below_drewN hb _) _⟩
          · have hs := Lib.hid (hno.out.succ (show othP L i k = false by unfold othP; simp [hq]))
            have hq' : ((la L k).id == (la L i).id) = false := by simpa using hq
            clear hno hne hq
            go_wp2_with fail
            go_quiet (fail)
            go_wp2_with fail
            go_roundw
            case rel => exact ⟨k + 1, by omega, by go_num, hs, drawn1 _ _⟩
            case measure => simp [intOf]; omega
        · have hs := Lib.hid (hno.out.succ (show othP L i k = false by unfold othP; simp [isC_f hp]))
          have hp' : ((la L k).kind == 2) = false := by simpa using hp
          clear hno hne hp
          go_wp2_with fail
          go_quiet (fail)
          go_wp2_with fail
          go_roundw
          case rel => exact ⟨k + 1, by omega, by go_num, hs, drawn1 _ _⟩
          case measure => simp [intOf]; omega
    · have hkn : k = n := by omega
      subst hkn
      have hf := Lib.hid (show ((othN L i : Nat) : Int) = i by rw [oth_none (by rw [HL.out]; exact hno.out)])
      clear hno
      go_wp2_with fail
      go_ret
      exact ⟨ret_int hf.out.symm, below_drewN hb _⟩
/-- A letter as a value. -/
def ltV (l : Lt) : Value := .agg #[.int .i64 l.kind, .int .i64 l.gate, .int .i64 l.rank, .int .i64 l.id, .int .i64 l.sign, .bool l.over]
set_option maxHeartbeats 400000 in
theorem ref_left (a b : Lt) (w : World) :
    Calls Tryd.prog 127 #[ltV a, ltV b] w fun e w' => e = .returned (.bool (lftB a b)) ∧ Below w.heap.size w w' := by
  have hb := ((Below.refl w.heap.size w).alloc (Nat.le_refl _) (.cells #[.int .i64 a.kind, .int .i64 a.gate, .int .i64 a.rank, .int .i64 a.id, .int .i64 a.sign, .bool a.over] 46)).alloc (by simp) (.cells #[.int .i64 b.kind, .int .i64 b.gate, .int .i64 b.rank, .int .i64 b.id, .int .i64 b.sign, .bool b.over] 46)
  unfold ltV
  by_cases h1 : a.gate < b.gate
  · have hf := Lib.hid (show lftB a b = true by unfold lftB; simp [h1])
    go_enter Tryd.func127, Tryd.ntmps127
    go_wp2_with fail
    go_ret
    exact ⟨ret_bool hf.out.symm, hb⟩
  · by_cases h2 : a.gate = b.gate
    · have hf := Lib.hid (show lftB a b = decide (a.rank < b.rank) by unfold lftB; simp [h2])
      have h1' : decide (a.gate < b.gate) = false := by simpa using h1
      have h2' : (a.gate == b.gate) = true := by simpa using h2
      clear h1 h2
      go_enter Tryd.func127, Tryd.ntmps127
      go_wp2_with fail
      go_ret
      exact ⟨ret_bool hf.out.symm, hb⟩
    · have hf := Lib.hid (show lftB a b = false by unfold lftB; simp [h1, h2])
      have h1' : decide (a.gate < b.gate) = false := by simpa using h1
      have h2' : (a.gate == b.gate) = false := by simpa using h2
      clear h1 h2
      go_enter Tryd.func127, Tryd.ntmps127
      go_wp2_with fail
      go_ret
      exact ⟨ret_bool hf.out.symm, hb⟩
end Go.Proofs.YtkjcmppaapbabaaDoor
