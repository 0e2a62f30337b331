/-
  Contracts: the document's Word, the program's Word. Conditions: the letters read.
  Contract: the program's Word. Conditions: the letters read.
-/
import Derived.Test.YtkjcmppaapbabaaDoorJK
import Derived.Test.YtkjcmppaapbabaaDoorJC
import Derived.Test.YtkjcmppaapbabaaDoorJF
namespace Go.Proofs.YtkjcmppaapbabaaDoor
section
open Go.RowKit
/-- The gates of the passes among the first m letters. -/
def gTo (L : List Lt) : Nat → List Int
  | 0 => []
  | m + 1 => if isP (la L m) then gTo L m ++ [(la L m).gate] else gTo L m
theorem gTo_yes {L : List Lt} {m : Nat} (h : isP (la L m) = true) : gTo L (m + 1) = gTo L m ++ [(la L m).gate] := by
  show (if isP (la L m) then _ else _) = _
  rw [if_pos h]
theorem gTo_no {L : List Lt} {m : Nat} (h : isP (la L m) = false) : gTo L (m + 1) = gTo L m := by
  show (if isP (la L m) then _ else _) = _
  rw [if_neg (by rw [h]; simp)]
theorem gTo_len (L : List Lt) : ∀ m, (gTo L m).length ≤ m
  | 0 => Nat.le_refl _
  | m + 1 => by
    have := gTo_len L m
    cases h : isP (la L m) with
    | true => rw [gTo_yes h]; simp; omega
    | false => rw [gTo_no h]; omega
def GivesI (w : World) (I : List Int) (e : Ending) (w' : World) : Prop := ∃ (A' : Option Addr) (n' c' : Nat), e = .returned (.slice A' n' c') ∧ Own w' w.heap.size A' n' c' I ∧ Below w.heap.size w w'
set_option maxRecDepth 100000 in
set_option maxHeartbeats 3200000 in
theorem cref_Word (K : Int) (A : Option Addr) (n c : Nat) (L : List Lt) (w : World) (hA : Lets w A n L) :
    Calls Tryd.prog 69 #[.agg #[.int .i64 K, .slice A n c]] w (GivesI w (gTo L n)) := by
  have hle := hA.le
  have hbx := Boxed.refl w K A n c
  go_enter Tryd.func69, Tryd.ntmps69
  go_wp2_with fail
  go_loopw [3, 4] (fun v3 v4 wr => ∃ (k m : Nat) (B : Option Addr) (d : Nat) (I : List Int), k ≤ n ∧ m ≤ k ∧ v4 = .int .i64 k ∧ v3 = .slice B m d ∧ Own wr (w.heap.size + 1) B m d I ∧ Boxed w wr K A n c ∧ Hid (I = gTo L k)) (fun _ v4 _ => n - (intOf v4).toNat)
  case atStart => exact ⟨0, 0, none, 0, [], Nat.zero_le _, Nat.le_refl _, rfl, rfl, Own.nil _ _, hbx, Lib.hid rfl⟩
  case round =>
    obtain ⟨k, m, B, d, I, hk, hm, rfl, rfl, hown, hb, HI⟩ := hrel
    clear hbx
    have e1 := hb.c1
    by_cases hlt : k < n
    · obtain ⟨g, o, rfl, hg, hx, hok⟩ := (hA.below hb.below).at_ hlt
      obtain ⟨y0, y1, y2, y3, y4, y5⟩ := hx
      have i0 : (0 : Int) ≤ (k : Int) := by omega
      have i1 : (k : Int) < (n : Int) := by omega
      have HOK := Lib.hid hok
      clear hok
      by_cases hk1 : (la L k).kind = 1
      · have q1 : ((la L k).kind == 1) = true := by simpa using hk1
        have HG := Lib.hid (gTo_yes (L := L) (m := k) (isP_t hk1))
        clear hk1
        go_wp2_with (at_builtin; refine app1 rfl _ _ rfl (hown.alloc _) (la L k).gate rfl rfl ?c1 HOK.out.gate (by omega) ?c3 ?_)
        case c1 => rw [World.cell?_alloc_at _ _ _ _ rfl]; rfl
        case c3 => have := hb.size; simp; omega
        intro B' d' w1 hown' hb' _ _
        have hbz := Boxed.moreB (Boxed.alloc hb (.cells #[.int .i64 (la L k).gate] 3)) hb' (Nat.le_refl _)
        clear hb hb' hown
        go_wp2_with fail
        go_roundw
        case rel => exact ⟨k + 1, m + 1, B', d', _, by omega, by omega, by go_num, rfl, hown', hbz, Lib.hid (by rw [HG.out, HI.out])⟩
        case measure => simp [intOf]; omega
      · have q1 : ((la L k).kind == 1) = false := by simpa using hk1
        have HG := Lib.hid (gTo_no (L := L) (m := k) (isP_f hk1))
        clear hk1
        go_wp2_with fail
        go_roundw
        case rel => exact ⟨k + 1, m, B, d, I, by omega, by omega, by go_num, rfl, hown, hb, Lib.hid (by rw [HG.out]; exact HI.out)⟩
        case measure => simp [intOf]; omega
    · have hkn : k = n := by omega
      subst hkn
      have hI := HI.out
      subst hI
      go_wp2_with fail
      go_ret
      exact ⟨B, m, d, rfl, hown.mono (by omega), hb.below⟩
end

section
open Go.RowKit
def worL (K : Int) (L : List Lt) (n : Nat) : List Int := if checkE K L = 0 then gTo L n else []
def GivesIE (w : World) (I : List Int) (E : Int) (e : Ending) (w' : World) : Prop := ∃ (A' : Option Addr) (n' c' : Nat), e = .returned (.tuple #[.slice A' n' c', .int .i64 E]) ∧ Own w' w.heap.size A' n' c' I ∧ Below w.heap.size w w'
set_option maxRecDepth 100000 in
set_option maxHeartbeats 6400000 in
theorem code_Word (K : Int) (A : Option Addr) (n c : Nat) (L : List Lt) (w : World) (hA : Lets w A n L) (hc : n ≤ c) :
    Calls Tryd.prog 65 #[.agg #[.int .i64 K, .slice A n c]] w (GivesIE w (worL K L n) (checkE K L)) := by
  have hle := hA.le
  have hbx := Boxed.refl w K A n c
  have x0 := hbx.c0
  have x1 := hbx.c1
  obtain ⟨E, hE⟩ : ∃ E, checkE K L = E := ⟨_, rfl⟩
  have HE := Lib.hid hE
  clear hE
  go_enter Tryd.func65, Tryd.ntmps65
  go_wp2_with fail
  refine (code_read K A n c L _ (hA.below hbx.below)).mono ?_
  rintro e w1 ⟨v, rfl, hb1, hok⟩
  have hb2 := hbx.more hb1
  clear x0 x1 hb1 hbx
  rw [HE.out]
  by_cases hz : E = 0
  · subst hz
    obtain ⟨p, rfl, k, rfl, hk40, hn400, hp, hcase⟩ := hok HE.out
    have hdc : w1.cell? ⟨p, 1, none⟩ = some (.slice A n c) := by
      rcases hcase with ⟨h0, hd⟩ | ⟨_, base, b, g2, g3, g4, g6, s, P, C, ids, _, hF⟩
      · exact hd.c1
      · exact hF.ranks.dia.c1
    have HW := Lib.hid (show worL (k : Int) L n = gTo L n by unfold worL; rw [if_pos HE.out])
    clear hok hcase
    go_wp2_with fail
    go_loopw [6, 8, 23] (fun v6 _ v23 wr => ∃ (i m : Nat) (B : Option Addr) (d : Nat) (I : List Int), i ≤ n ∧ m ≤ i ∧ v23 = .int .i64 i ∧ v6 = .slice B m d ∧ Own wr (w.heap.size + 1) B m d I ∧ Boxed w wr (k : Int) A n c ∧ Hid (I = gTo L i)) (fun _ _ v23 _ => n - (intOf v23).toNat)
    case atStart => exact ⟨0, 0, none, 0, [], Nat.zero_le _, Nat.le_refl _, rfl, rfl, Own.nil _ _, hb2, Lib.hid rfl⟩
    case round =>
      obtain ⟨i, m, B, d, I, hi, hm, rfl, rfl, hown, hb, HI⟩ := hrel
      clear hb2 hdc
      by_cases hlt : i < n
      · obtain ⟨g, o, rfl, hg, hx, hok⟩ := (hA.below hb.below).at_ hlt
        obtain ⟨y0, y1, y2, y3, y4, y5⟩ := hx
        have i0 : (0 : Int) ≤ (i : Int) := by omega
        have i1 : (i : Int) < (n : Int) := by omega
        have HOK := Lib.hid hok
        clear hok
        by_cases hk1 : (la L i).kind = 1
        · have q1 : ((la L i).kind == 1) = true := by simpa using hk1
          have HG := Lib.hid (gTo_yes (L := L) (m := i) (isP_t hk1))
          clear hk1
          go_wp2_with (at_builtin; refine app1 rfl _ _ rfl ((hown.alloc _).alloc _) (la L i).gate rfl rfl ?c1 HOK.out.gate (by omega) ?c3 ?_)
          case c1 => rw [World.cell?_alloc_at _ _ _ _ (by simp)]; rfl
          case c3 => have := hb.size; simp; omega
          intro B' d' w2 hown' hb' _ _
          have hbz := Boxed.moreB ((Boxed.alloc hb _).alloc _) hb' (Nat.le_refl _)
          clear hb hb' hown
          go_wp2_with fail
          go_roundw
          case rel => exact ⟨i + 1, m + 1, B', d', _, by omega, by omega, by go_num, rfl, hown', hbz, Lib.hid (by rw [HG.out, HI.out])⟩
          case measure => simp [intOf]; omega
        · have q1 : ((la L i).kind == 1) = false := by simpa using hk1
          have HG := Lib.hid (gTo_no (L := L) (m := i) (isP_f hk1))
          clear hk1
          go_wp2_with fail
          go_roundw
          case rel => exact ⟨i + 1, m, B, d, I, by omega, by omega, by go_num, rfl, hown.alloc _, hb.alloc _, Lib.hid (by rw [HG.out]; exact HI.out)⟩
          case measure => simp [intOf]; omega
      · have hkn : i = n := by omega
        subst hkn
        go_wp2_with fail
        go_ret2
        exact ⟨B, m, d, by rw [HE.out]; rfl, by rw [HW.out, ← HI.out]; exact hown.mono (by omega), hb.below⟩
  · have hz2 : (E != 0) = true := by simpa using hz
    have HW := Lib.hid (show worL K L n = [] by unfold worL; rw [if_neg (by rw [HE.out]; exact hz)])
    clear hok hz
    go_wp2_with fail
    go_ret2
    exact ⟨none, 0, 0, by rw [HE.out]; rfl, by rw [HW.out]; exact Own.nil _ _, hb2.below⟩
end
end Go.Proofs.YtkjcmppaapbabaaDoor
