/-
  The law CodeParses returns true and leaves what was there. Condition: the library's tables stand as they were laid.
-/
import Derived.Test.YtkjcmppaapbabaaDoorN22
namespace Go.Proofs.YtkjcmppaapbabaaDoor
open Go.RowKit
theorem parse_three (s : List UInt8) (h : ¬8000 < s.length) : parseR s = (0, [], 6) ∨ (∃ K L, parseR s = (K, L, 0) ∧ checkE K L = 0 ∧ printS K L = s ∧ I64 K ∧ L.length ≤ s.length) ∨ parseR s = (0, [], 2) ∨ parseR s = (0, [], 3) ∨ parseR s = (0, [], 7) := by
  cases hp : parseF s with
  | none => exact .inl (by unfold parseR; rw [if_neg h, hp])
  | some x =>
    obtain ⟨K, L⟩ := x
    have hs := parseF_sound hp
    have hr : parseR s = errP K L := by unfold parseR; rw [if_neg h, hp]
    have hK : I64 K := by
      unfold parseF at hp
      split at hp
      · obtain ⟨L', _, h2⟩ := Option.map_eq_some_iff.1 hp
        simp only [Prod.mk.injEq] at h2
        rw [← h2.1]
        exact numF_bounds _
      · cases hp
    have hl : L.length ≤ s.length := by
      rw [← hs.1]
      unfold printS
      have : ∀ M : List Lt, M.length ≤ (lettersS M).length := fun M => by
        induction M with
        | nil => exact Nat.le_refl _
        | cons l M ih => unfold lettersS at ih ⊢; rw [List.flatMap_cons, List.length_append, List.length_cons, List.length_cons]; omega
      have := this L
      simp only [List.length_append]
      omega
    unfold errP at hr
    by_cases h0 : checkE K L = 0
    · rw [if_pos h0] at hr
      exact .inr (.inl ⟨K, L, hr, h0, hs.1, hK, hl⟩)
    · rw [if_neg h0] at hr
      have h3 : checkE K L = 2 ∨ checkE K L = 3 ∨ checkE K L = 7 := by
        unfold checkE at h0 ⊢
        split
        · exact .inr (.inr rfl)
        · split
          · exact .inl rfl
          · rename_i h1 h2
            rw [if_neg h1, if_neg h2] at h0
            split
            · rename_i h3; rw [if_pos h3] at h0; exact absurd rfl h0
            · rename_i h3
              rw [if_neg h3] at h0
              split
              · rename_i h4; rw [if_pos h4] at h0; exact absurd rfl h0
              · exact .inr (.inl rfl)
      rcases h3 with h3 | h3 | h3
      · exact .inr (.inr (.inl (by rw [hr, h3])))
      · exact .inr (.inr (.inr (.inl (by rw [hr, h3]))))
      · exact .inr (.inr (.inr (.inr (by rw [hr, h3]))))
set_option maxRecDepth 100000 in
set_option maxHeartbeats 12800000 in
theorem codeParses_any (s : List UInt8) (w : World) (ht : Tabs w) :
    Calls Tryd.prog 19 #[.string (bA s)] w fun e w' => e = .returned (.bool true) ∧ Below w.heap.size w w' := by
  have hsl : (bA s).size = s.length := bA_size s
  have hbz := build_code0
  by_cases hmid : 600 < s.length ∧ s.length ≤ 8000
  · have i0 : decide ((s.length : Int) > 600) = true := by simp; omega
    have i1 : (s.length : Int) ≤ 8000 := by omega
    have i2 : (600 : Int) < (s.length : Int) := by omega
    clear hmid
    go_enter Tryd.func19, Tryd.ntmps19
    go_wp2_with fail
    refine (law_known _).mono ?_
    rintro e w1 ⟨rfl, hb⟩
    go_wp2_with fail
    go_ret
    exact ⟨rfl, hb⟩
  · have hcp := code_ParseA s w ht
    by_cases hlong : 8000 < s.length
    · have hr : parseR s = (0, [], 7) := by unfold parseR; rw [if_pos hlong]
      rw [hr] at hcp
      have HCP := Lib.hid hcp
      have i0 : (600 : Int) < (s.length : Int) := by omega
      have i1 : ¬ (s.length : Int) ≤ 8000 := by omega
      have i2 : (8000 : Int) < (s.length : Int) := by omega
      clear hcp hr hmid hlong
      go_enter Tryd.func19, Tryd.ntmps19
      go_wp2_with fail
      refine HCP.out.mono ?_
      rintro e w1 ⟨A5, n5, c5, rfl, hO5, hb⟩
      have hL5 := hO5.lets
      simp only [] at hL5
      have hL6 := hL5.alloc (.cells #[.int .i64 0, .slice A5 n5 c5] 24)
      have hb6 := hb.alloc hb.size (.cells #[.int .i64 0, .slice A5 n5 c5] 24)
      have hk6 := Blk.new w1 24 #[.int .i64 0, .slice A5 n5 c5]
      clear HCP hO5 hL5 hb
      go_upto_region 5 with fail
      generalize w1.alloc (.cells #[.int .i64 0, .slice A5 n5 c5] 24) = V at hL6 hb6 hk6 ⊢
      obtain ⟨d0, d1, _, _⟩ := hk6.two
      go_wp2_with fail
      clear d0 d1 hk6
      refine (same_code 0 A5 none n5 c5 0 0 [] _ hL6 (Lets.nil _ _)).mono ?_
      rintro e w6 ⟨rfl, hb⟩
      have hb7 := hb6.trans (hb.mono hb6.size)
      clear hb hb6 hL6
      go_wp2_with fail
      refine (law_known _).mono ?_
      rintro e w7 ⟨rfl, hb⟩
      have hb8 := hb7.trans (hb.mono hb7.size)
      go_wp2_with fail
      go_ret
      exact ⟨rfl, hb8⟩
    · have i0 : ¬ (600 : Int) < (s.length : Int) := by omega
      have i2 : ¬ (8000 : Int) < (s.length : Int) := by omega
      have hl6 : s.length ≤ 600 := by omega
      have h3 := parse_three s hlong
      clear hmid hlong
      rcases h3 with hr | ⟨K, L, hr, hE, hP, hK, hlen⟩ | hr | hr | hr
      case inr.inl =>
        rw [hr] at hcp
        have HCP := Lib.hid hcp
        have HE := Lib.hid hE
        have HK := Lib.hid hK
        have n0 : ((bA (printS K L)).toList == (bA s).toList) = true := by rw [hP]; exact beq_self_eq_true _
        obtain ⟨T, hT⟩ : ∃ T, T = bA (printS K L) := ⟨_, rfl⟩
        rw [← hT] at n0
        have HT := Lib.hid hT
        clear hcp hr hE hP hK hT
        go_enter Tryd.func19, Tryd.ntmps19
        go_wp2_with fail
        refine HCP.out.mono ?_
        rintro e w1 ⟨A5, n5, c5, rfl, hO5, hb⟩
        have hL5 := hO5.lets
        simp only [] at hL5
        have hn5 : n5 ≤ 1000 := by have := hL5.len; omega
        have hL6 := hL5.alloc (.cells #[.int .i64 K, .slice A5 n5 c5] 24)
        have hb6 := hb.alloc hb.size (.cells #[.int .i64 K, .slice A5 n5 c5] 24)
        have hk6 := Blk.new w1 24 #[.int .i64 K, .slice A5 n5 c5]
        clear HCP hO5 hL5 hb
        go_upto_region 6 with fail
        generalize w1.alloc (.cells #[.int .i64 K, .slice A5 n5 c5] 24) = V at hL6 hb6 hk6 ⊢
        obtain ⟨d0, d1, _, _⟩ := hk6.two
        go_wp2_with fail
        refine (ref_Check K A5 n5 c5 L _ hL6).mono ?_
        rintro e w6 ⟨rfl, hb⟩
        rw [HE.out]
        obtain ⟨e0, e1, _, _⟩ := (hk6.below hb hk6.lt).two
        have hb7 := hb6.trans (hb.mono hb6.size)
        have hL7 := hL6.below hb
        clear hb hb6 hL6 d0 d1 hk6
        go_wp2_with fail
        refine (cref_PrintA K A5 n5 c5 L _ hL7 hn5 HK.out).mono ?_
        rintro e w7 ⟨rfl, hb⟩
        rw [← HT.out]
        have hb8 := hb7.trans (hb.mono hb7.size)
        clear hb hb7 hL7 e0 e1
        go_wp2_with fail
        refine (law_known _).mono ?_
        rintro e w8 ⟨rfl, hb⟩
        have hb9 := hb8.trans (hb.mono hb8.size)
        go_wp2_with fail
        go_ret
        exact ⟨rfl, hb9⟩
      all_goals
        rw [hr] at hcp
        have HCP := Lib.hid hcp
        clear hcp hr
        go_enter Tryd.func19, Tryd.ntmps19
        go_wp2_with fail
        refine HCP.out.mono ?_
        rintro e w1 ⟨A5, n5, c5, rfl, hO5, hb⟩
        have hL5 := hO5.lets
        simp only [] at hL5
        have hL6 := hL5.alloc (.cells #[.int .i64 0, .slice A5 n5 c5] 24)
        have hb6 := hb.alloc hb.size (.cells #[.int .i64 0, .slice A5 n5 c5] 24)
        have hk6 := Blk.new w1 24 #[.int .i64 0, .slice A5 n5 c5]
        clear HCP hO5 hL5 hb
        go_upto_region 6 with fail
        generalize w1.alloc (.cells #[.int .i64 0, .slice A5 n5 c5] 24) = V at hL6 hb6 hk6 ⊢
        obtain ⟨d0, d1, _, _⟩ := hk6.two
        go_wp2_with fail
        clear d0 d1 hk6
        refine (same_code 0 A5 none n5 c5 0 0 [] _ hL6 (Lets.nil _ _)).mono ?_
        rintro e w6 ⟨rfl, hb⟩
        have hb7 := hb6.trans (hb.mono hb6.size)
        clear hb hb6 hL6
        go_wp2_with fail
        refine (law_known _).mono ?_
        rintro e w7 ⟨rfl, hb⟩
        have hb8 := hb7.trans (hb.mono hb7.size)
        go_wp2_with fail
        go_ret
        exact ⟨rfl, hb8⟩
end Go.Proofs.YtkjcmppaapbabaaDoor
