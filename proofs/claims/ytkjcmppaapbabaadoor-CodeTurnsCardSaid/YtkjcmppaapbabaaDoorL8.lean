/-
  Contract of the document's Check. Conditions: the code's letters read.
-/
import Derived.Test.YtkjcmppaapbabaaDoorL7
import Derived.Test.YtkjcmppaapbabaaDoorS2
namespace Go.Proofs.YtkjcmppaapbabaaDoor
open Go.RowKit

theorem ref_Crossings_is {x : Nat} {L : List Lt} {n : Nat} (hx : cN L n / 2 = x) (K : Int) (A : Option Addr) (c : Nat) (w : World) (hA : Lets w A n L) :
    Calls Tryd.prog 30 #[.agg #[.int .i64 K, .slice A n c]] w fun e w' => e = .returned (.int .i64 x) ∧ Below w.heap.size w w' := by
  subst hx
  exact ref_Crossings K A n c L w hA
theorem ref_letters_is {b : Bool} {K : Int} {L : List Lt} (hb : lettersR K L = b) (A : Option Addr) (n c : Nat) (w : World) (hA : Lets w A n L) (hn400 : n ≤ 1000) :
    Calls Tryd.prog 77 #[.agg #[.int .i64 K, .slice A n c]] w fun e w' => e = .returned (.bool b) ∧ Below w.heap.size w w' := by
  subst hb
  exact ref_letters K A n c L w hA hn400
/-- Only how many walks there are. -/
theorem ref_Walks_len {q : Nat} {K : Int} {L : List Lt} (hq : (walksL L).length = q) (A : Option Addr) (n c : Nat) (w : World) (hA : Lets w A n L) (g : Good K L) (hn400 : n ≤ 1000) :
    Calls Tryd.prog 78 #[.agg #[.int .i64 K, .slice A n c]] w fun e w' => (∃ A' c', e = .returned (.slice A' q c')) ∧ Below w.heap.size w w' := by
  subst hq
  refine (ref_Walks K A n c L w hA g hn400).mono ?_
  rintro e w' ⟨A', c', vs, rfl, _, hb⟩
  exact ⟨⟨A', c', rfl⟩, hb⟩
theorem checkE_7 {K : Int} {L : List Lt} (h : 400 < L.length ∨ 200 < cN L L.length) : checkE K L = 7 := by unfold checkE; rw [if_pos h]
theorem checkE_2 {K : Int} {L : List Lt} (h : ¬(400 < L.length ∨ 200 < cN L L.length)) (h2 : K < 0 ∨ 40 < K) : checkE K L = 2 := by unfold checkE; rw [if_neg h, if_pos h2]
theorem checkE_0 {K : Int} {L : List Lt} (h : ¬(400 < L.length ∨ 200 < cN L L.length)) (h2 : ¬(K < 0 ∨ 40 < K)) (h3 : L.length = 0) : checkE K L = 0 := by unfold checkE; rw [if_neg h, if_neg h2, if_pos h3]
theorem checkE_v {K : Int} {L : List Lt} (h : ¬(400 < L.length ∨ 200 < cN L L.length)) (h2 : ¬(K < 0 ∨ 40 < K)) (h3 : ¬L.length = 0) : checkE K L = if validB2 K L then 0 else 3 := by unfold checkE; rw [if_neg h, if_neg h2, if_neg h3]
set_option maxRecDepth 100000 in
set_option maxHeartbeats 3200000 in
theorem ref_Check (K : Int) (A : Option Addr) (n c : Nat) (L : List Lt) (w : World) (hA : Lets w A n L) :
    Calls Tryd.prog 21 #[.agg #[.int .i64 K, .slice A n c]] w fun e w' => e = .returned (.int .i64 (checkE K L)) ∧ Below w.heap.size w w' := by
  have hle := hA.le
  have hLn : L.length = n := hA.len
  have hbx := Boxed.refl w K A n c
  have hcn := cN_le L n
  by_cases h400 : 400 < n
  · have hf := Lib.hid (checkE_7 (K := K) (L := L) (.inl (by omega)))
    have q : (400 : Int) < (n : Int) := by omega
    clear hLn
    go_enter Tryd.func21, Tryd.ntmps21
    go_wp2_with fail
    go_ret
    exact ⟨ret_int hf.out.symm, hbx.below⟩
  · have q : decide ((400 : Int) < (n : Int)) = false := by simp; omega
    by_cases h200 : 200 < cN L n
    · have hf := Lib.hid (checkE_7 (K := K) (L := L) (.inr (by rw [hLn]; exact h200)))
      have q2 : (200 : Int) < (cN L n : Int) := by omega
      clear hLn
      go_enter Tryd.func21, Tryd.ntmps21
      go_wp2_with fail
      refine (ref_visits K A n c L _ (hA.below hbx.below)).mono ?_
      rintro e w1 ⟨rfl, hb1⟩
      have hb2 := hbx.more hb1
      go_wp2_with fail
      go_ret
      exact ⟨ret_int hf.out.symm, hb2.below⟩
    · have q2 : decide ((200 : Int) < (cN L n : Int)) = false := by simp; omega
      have hno : ¬(400 < L.length ∨ 200 < cN L L.length) := by rw [hLn]; omega
      by_cases hK0 : K < 0
      · have hf := Lib.hid (checkE_2 (K := K) (L := L) hno (.inl hK0))
        clear hLn
        go_enter Tryd.func21, Tryd.ntmps21
        go_wp2_with fail
        refine (ref_visits K A n c L _ (hA.below hbx.below)).mono ?_
        rintro e w1 ⟨rfl, hb1⟩
        have hb2 := hbx.more hb1
        have c0 := hb2.c0
        go_wp2_with fail
        go_ret
        exact ⟨ret_int hf.out.symm, hb2.below⟩
      · have q3 : decide (K < 0) = false := by simpa using hK0
        by_cases hK4 : 40 < K
        · have hf := Lib.hid (checkE_2 (K := K) (L := L) hno (.inr hK4))
          clear hLn hK0
          go_enter Tryd.func21, Tryd.ntmps21
          go_wp2_with fail
          refine (ref_visits K A n c L _ (hA.below hbx.below)).mono ?_
          rintro e w1 ⟨rfl, hb1⟩
          have hb2 := hbx.more hb1
          have c0 := hb2.c0
          go_wp2_with fail
          go_ret
          exact ⟨ret_int hf.out.symm, hb2.below⟩
        · have q4 : decide (40 < K) = false := by simpa using hK4
          by_cases h0 : n = 0
          · have hf := Lib.hid (checkE_0 (K := K) (L := L) hno (by omega) (by omega))
            subst h0
            clear hLn hK0 hK4
            go_enter Tryd.func21, Tryd.ntmps21
            go_wp2_with fail
            refine (ref_visits K A 0 c L _ (hA.below hbx.below)).mono ?_
            rintro e w1 ⟨rfl, hb1⟩
            have hb2 := hbx.more hb1
            have c0 := hb2.c0
            have c1 := hb2.c1
            go_wp2_with fail
            go_ret
            exact ⟨ret_int hf.out.symm, hb2.below⟩
          · have hf := checkE_v (K := K) (L := L) hno (by omega) (by omega)
            have q5 : ((n : Int) == 0) = false := by simp; omega
            have q50 : (0 : Int) < (n : Int) := by omega
            have q51 : 0 < n := by omega
            have hn1000 : n ≤ 1000 := by omega
            have hpn := pN_le L n
            obtain ⟨g, o, rfl, hg, hx, _⟩ := hA.at_ (k := 0) (by omega)
            obtain ⟨x, hx2⟩ : ∃ x, cN L n / 2 = x := ⟨_, rfl⟩
            obtain ⟨q', hq'⟩ : ∃ q', (walksL L).length = q' := ⟨_, rfl⟩
            have HX2 := Lib.hid hx2
            have HQ := Lib.hid hq'
            have hz0 := hx.kind
            simp only [Nat.zero_mul, Nat.add_zero] at hz0
            have HLn := Lib.hid hLn
            have HV := Lib.hid hf
            have hgl := hg
            have hxb : x ≤ 1000 := by omega
            have hvd : Hid (validB2 K L = (isP (la L 0) && decide (pN L n % 2 = 0) && lettersR K L && ((walksL L).length == pN L n + cN L n / 2 + 2))) := by
              show _ = _
              unfold validB2 flatB
              rw [hLn]
            have m0 : (0 : Int) ≤ (pN L n : Int) := by omega
            clear hLn hf hx2 hq' h0 hK0 hK4 hno hx
            have hzw := hz0
            have hAw : Lets w (some ⟨g, o, none⟩) n L := hA
            by_cases hk : (la L 0).kind = 1
            · have hk1 : ((la L 0).kind != 1) = false := by simpa using hk
              have HK := Lib.hid (isP_t hk)
              clear hk
              by_cases hp : pN L n % 2 = 0
              · have hp1 : ((pN L n : Int) % 2 != 0) = false := by simp; omega
                have HP := Lib.hid hp
                clear hp
                have s3 : IntKind.i64.wrap ((pN L n : Int) % 2) = (pN L n : Int) % 2 := IntWalk.i64_in _ (by omega)
                have s4 : (pN L n : Int).tmod 2 = (pN L n : Int) % 2 := Int.tmod_eq_emod_of_nonneg (by omega)
                cases hl : lettersR K L with
                | false =>
                  have HLB := Lib.hid hl
                  have HF := Lib.hid (show checkE K L = 3 by rw [HV.out, hvd.out, hl]; simp)
                  clear hl
                  go_enter Tryd.func21, Tryd.ntmps21
                  go_wp2_with fail
                  refine (ref_visits K (some ⟨g, o, none⟩) n c L _ (hA.below hbx.below)).mono ?_
                  rintro e w1 ⟨rfl, hb1⟩
                  have hb2 := hbx.more hb1
                  have c0 := hb2.c0
                  have c1 := hb2.c1
                  go_wp2_with fail
                  refine (ref_Passes K (some ⟨g, o, none⟩) n c L _ (hA.below hb2.below)).mono ?_
                  rintro e w2 ⟨rfl, hb3⟩
                  have hb4 := hb2.more hb3
                  clear c0 c1 hb1 hb2 hb3
                  have c0 := hb4.c0
                  have c1 := hb4.c1
                  have z2 : w2.cell? ⟨g, o, none⟩ = some (.int .i64 (la L 0).kind) := (hb4.below.cell (p := ⟨g, o, none⟩) hgl).trans hzw
                  have hA2 := hA.below hb4.below
                  go_wp2_with fail
                  have hl0 : w.heap.size < w2.heap.size := World.block_lt_of_cell? w2 _ c0
                  refine wk_region (C := fun w' => Below w2.heap.size w2 w') 54 [(1, .pointer (some ⟨w.heap.size, 0, none⟩)), (3, .int .i64 (pN L n : Nat))] (by kernel_rfl) (by kernel_rfl) rfl (by kernel_rfl) (by intro q hq; simp at hq; rcases hq with rfl | rfl <;> simp) (frm_same (frm_same rfl (by simp) rfl) (by simp) rfl) ((Below.refl _ _).drew) ?_
                  intro r hrc hrf
                  refine wk_one (v := .pointer (some ⟨w.heap.size, 1, none⟩)) rfl (fun w' hC => q_fa (p := .pointer (some ⟨w.heap.size, 0, none⟩)) rfl rfl (fa_code _ 0 1 (by decide) _)) ?_
                  refine wk_one (v := .slice (some ⟨g, o, none⟩) n c) rfl (fun w' hC => q_ld (p := .pointer (some ⟨w.heap.size, 1, none⟩)) rfl rfl (ld_lets ((hC.cell (p := ⟨w.heap.size, 1, none⟩) hl0).trans c1))) ?_
                  refine wk_one (v := .pointer (some ⟨g, o, none⟩)) rfl (fun w' hC => q_ix (X := .slice (some ⟨g, o, none⟩) n c) (I := .int .i64 0) rfl rfl (hrc _) (ix_first q50 _)) ?_
                  refine wk_one (v := .pointer (some ⟨g, o, none⟩)) rfl (fun w' hC => q_fa (p := .pointer (some ⟨g, o, none⟩)) rfl rfl (fa_lt _ o 0 (by decide) _)) ?_
                  refine wk_one (v := .int .i64 (la L 0).kind) rfl (fun w' hC => q_ld (p := .pointer (some ⟨g, o, none⟩)) rfl rfl (ld_kind ((hC.cell (p := ⟨g, o, none⟩) (World.block_lt_of_cell? w2 _ z2)).trans z2))) ?_
                  refine wk_one (v := .bool (false)) rfl (fun w' hC => q_bin (X := .int .i64 (la L 0).kind) (Y := .int .i64 1) rfl rfl (hrc _) (bo_neqK hk1)) ?_
                  refine wk_one (v := .bool (false)) rfl (fun w' hC => q_move rfl rfl) ?_
                  refine wk_grd (b := !(false)) (v := .int .i64 (pN L n : Nat)) (want_f rfl rfl rfl) (fun h w' hC => q_move rfl rfl) ?_
                  refine wk_grd (b := !(false)) (v := .int .i64 ((pN L n : Int) % 2)) (want_f rfl rfl rfl) (fun h w' hC => q_bin (X := .int .i64 (pN L n : Nat)) (Y := .int .i64 2) rfl (cnd (u := undef) h) (hrc _) (bo_rem2 _ (by omega))) ?_
                  refine wk_grd (b := !(false)) (v := .bool (false)) (want_f rfl rfl rfl) (fun h w' hC => q_bin (X := .int .i64 ((pN L n : Int) % 2)) (Y := .int .i64 0) rfl (cnd (u := undef) h) (hrc _) (bo_neq hp1)) ?_
                  refine wk_one (v := .bool (false || false)) rfl (fun w' hC => q_or rfl (fun _ => hrc _) rfl rfl) ?_
                  refine wk_one (v := .bool (false || false)) rfl (fun w' hC => q_move rfl rfl) ?_
                  refine wk_grd (b := !(false || false)) (v := .agg #[.int .i64 K, .slice (some ⟨g, o, none⟩) n c]) (want_f rfl rfl rfl) (fun h w' hC => q_ld (p := .pointer (some ⟨w.heap.size, 0, none⟩)) rfl rfl (ld_code ((hC.cell (p := ⟨w.heap.size, 0, none⟩) hl0).trans c0) ((hC.cell (p := ⟨w.heap.size, 1, none⟩) hl0).trans c1))) ?_
                  refine wk_grd (b := !(false || false)) (v := .bool (false)) (want_f rfl rfl rfl) (fun h w' hC => q_call (vs := #[.agg #[.int .i64 K, .slice (some ⟨g, o, none⟩) n c]]) rfl (hrf _) (map1 (cnd (u := undef) h)) (en_letters _ _) ((ref_letters_is HLB.out (some ⟨g, o, none⟩) n c _ (hA2.below hC) hn1000).mono fun _ _ ⟨he, hb⟩ => ⟨he, below_chain hC hb hC.size⟩)) ?_
                  refine wk_grd (b := !(false || false)) (v := .bool (!false)) (want_f rfl rfl rfl) (fun h w' hC => q_un (X := .bool (false)) rfl (cnd (u := undef) h) (un_not _ _)) ?_
                  refine wk_one (v := .bool ((false || false) || (!false))) rfl (fun w' hC => q_or rfl (fun _ => hrc _) rfl rfl) ?_
                  refine wk_one (v := .bool ((false || false) || (!false))) rfl (fun w' hC => q_move rfl rfl) ?_
                  refine wk_grd (b := !((false || false) || (!false))) (v := undef) (want_f rfl rfl rfl) (fun h => absurd h (by decide)) ?_
                  refine wk_grd (b := !((false || false) || (!false))) (v := undef) (want_f rfl rfl rfl) (fun h => absurd h (by decide)) ?_
                  refine wk_grd (b := !((false || false) || (!false))) (v := undef) (want_f rfl rfl rfl) (fun h => absurd h (by decide)) ?_
                  refine wk_grd (b := !((false || false) || (!false))) (v := undef) (want_f rfl rfl rfl) (fun h => absurd h (by decide)) ?_
                  refine wk_grd (b := !((false || false) || (!false))) (v := undef) (want_f rfl rfl rfl) (fun h => absurd h (by decide)) ?_
                  refine wk_grd (b := !((false || false) || (!false))) (v := undef) (want_f rfl rfl rfl) (fun h => absurd h (by decide)) ?_
                  refine wk_grd (b := !((false || false) || (!false))) (v := .bool false) (want_f rfl rfl rfl) (fun h => absurd h (by decide)) ?_
                  refine wk_grd (b := !((false || false) || (!false))) (v := .bool false) (want_f rfl rfl rfl) (fun h => absurd h (by decide)) ?_
                  refine wk_grd (b := !((false || false) || (!false))) (v := .bool false) (want_f rfl rfl rfl) (fun h => absurd h (by decide)) ?_
                  refine wk_one (v := .bool (((false || false) || (!false)) || false)) rfl (fun w' hC => q_or rfl (fun _ => hrc _) rfl rfl) ?_
                  intro wx hwx
                  clear hrc hrf r
                  have hbf := hb4.more hwx
                  clear c0 c1 z2 hA2 hb4
                  simp only [outE, frm, Act.put, List.setIfInBounds_toArray, List.set_cons_succ, List.set_cons_zero]
                  go_wp2_with fail
                  go_ret
                  exact ⟨ret_int HF.out.symm, hbf.below⟩
                | true =>
                  have HLB := Lib.hid hl
                  have HG := Lib.hid (show Good K L by
                    have h1 := hl
                    rw [← letters_iff] at h1
                    simp only [Bool.and_eq_true] at h1
                    exact good_of_parts (by rw [HLn.out]; omega) HK.out (by rw [HLn.out]; exact HP.out) h1.1.1 h1.1.2 h1.2)
                  have s1 : IntKind.i64.wrap ((pN L n : Int) + (x : Int)) = (pN L n : Int) + (x : Int) := IntWalk.i64_in _ (by omega)
                  have s2 : IntKind.i64.wrap ((pN L n : Int) + (x : Int) + 2) = (pN L n : Int) + (x : Int) + 2 := IntWalk.i64_in _ (by omega)
                  cases hfl : ((q' : Int) != (pN L n : Int) + (x : Int) + 2) with
                  | true =>
                    have HF := Lib.hid (show checkE K L = 3 by
                      rw [HV.out, hvd.out, hl, HQ.out, HX2.out]
                      have : (q' == pN L n + x + 2) = false := by simp at hfl ⊢; omega
                      rw [this]; simp)
                    clear hl
                    go_enter Tryd.func21, Tryd.ntmps21
                    go_wp2_with fail
                    refine (ref_visits K (some ⟨g, o, none⟩) n c L _ (hA.below hbx.below)).mono ?_
                    rintro e w1 ⟨rfl, hb1⟩
                    have hb2 := hbx.more hb1
                    have c0 := hb2.c0
                    have c1 := hb2.c1
                    go_wp2_with fail
                    refine (ref_Passes K (some ⟨g, o, none⟩) n c L _ (hA.below hb2.below)).mono ?_
                    rintro e w2 ⟨rfl, hb3⟩
                    have hb4 := hb2.more hb3
                    clear c0 c1 hb1 hb2 hb3
                    have c0 := hb4.c0
                    have c1 := hb4.c1
                    have z2 : w2.cell? ⟨g, o, none⟩ = some (.int .i64 (la L 0).kind) := (hb4.below.cell (p := ⟨g, o, none⟩) hgl).trans hzw
                    have hA2 := hA.below hb4.below
                    go_wp2_with fail
                    have KP := Lib.hid (show ∀ wx, Below w2.heap.size w2 wx → (Below w2.heap.size w2 wx ∧ Boxed w wx K (some ⟨g, o, none⟩) n c ∧ wx.cell? ⟨w.heap.size, 0, none⟩ = some (.int .i64 K) ∧ wx.cell? ⟨w.heap.size, 1, none⟩ = some (.slice (some ⟨g, o, none⟩) n c) ∧ wx.cell? ⟨g, o, none⟩ = some (.int .i64 (la L 0).kind)) from fun wx h => ⟨h, hb4.more h, (hb4.more h).c0, (hb4.more h).c1, (h.cell (World.block_lt_of_cell? w2 _ z2)).trans z2⟩)
                    first
                      | go_region_held3 (fun wx => Below w2.heap.size w2 wx ∧ Boxed w wx K (some ⟨g, o, none⟩) n c ∧ wx.cell? ⟨w.heap.size, 0, none⟩ = some (.int .i64 K) ∧ wx.cell? ⟨w.heap.size, 1, none⟩ = some (.slice (some ⟨g, o, none⟩) n c) ∧ wx.cell? ⟨g, o, none⟩ = some (.int .i64 (la L 0).kind)) (first | assumption | exact KP.out _ (Below.refl _ _).drew | exact KP.out _ (below_chain (And.left (by assumption)) (by assumption) (Below.size (And.left (by assumption))))) (first | (refine unwanted_step (by rfl) ?_) | (go_at_call 77; refine (ref_letters_is HLB.out (some ⟨g, o, none⟩) n c _ (hA2.below (And.left (by assumption))) hn1000).mono ?_; rintro e wx ⟨rfl, hb5⟩) | (go_at_call 78; refine (ref_Walks_len HQ.out (some ⟨g, o, none⟩) n c _ (hA2.below (And.left (by assumption))) HG.out hn1000).mono ?_; rintro e wy ⟨⟨A7, c7, rfl⟩, hb6⟩) | (go_at_call 30; refine (ref_Crossings_is HX2.out K (some ⟨g, o, none⟩) c _ (hA2.below (And.left (by assumption)))).mono ?_; rintro e wz ⟨rfl, hb7⟩))
                      | fail
                    all_goals
                      have hbf := hb4.more (And.left (show Below w2.heap.size w2 _ ∧ _ by assumption))
                      go_wp2_with fail
                      go_ret
                      exact ⟨ret_int HF.out.symm, hbf.below⟩
                  | false =>
                    have HF := Lib.hid (show checkE K L = 0 by
                      rw [HV.out, hvd.out, hl, HQ.out, HX2.out, HK.out]
                      have : (q' == pN L n + x + 2) = true := by simp at hfl ⊢; omega
                      rw [this]; simp [HP.out])
                    clear hl
                    go_enter Tryd.func21, Tryd.ntmps21
                    go_wp2_with fail
                    refine (ref_visits K (some ⟨g, o, none⟩) n c L _ (hA.below hbx.below)).mono ?_
                    rintro e w1 ⟨rfl, hb1⟩
                    have hb2 := hbx.more hb1
                    have c0 := hb2.c0
                    have c1 := hb2.c1
                    go_wp2_with fail
                    refine (ref_Passes K (some ⟨g, o, none⟩) n c L _ (hA.below hb2.below)).mono ?_
                    rintro e w2 ⟨rfl, hb3⟩
                    have hb4 := hb2.more hb3
                    clear c0 c1 hb1 hb2 hb3
                    have c0 := hb4.c0
                    have c1 := hb4.c1
                    have z2 : w2.cell? ⟨g, o, none⟩ = some (.int .i64 (la L 0).kind) := (hb4.below.cell (p := ⟨g, o, none⟩) hgl).trans hzw
                    have hA2 := hA.below hb4.below
                    go_wp2_with fail
                    have KP := Lib.hid (show ∀ wx, Below w2.heap.size w2 wx → (Below w2.heap.size w2 wx ∧ Boxed w wx K (some ⟨g, o, none⟩) n c ∧ wx.cell? ⟨w.heap.size, 0, none⟩ = some (.int .i64 K) ∧ wx.cell? ⟨w.heap.size, 1, none⟩ = some (.slice (some ⟨g, o, none⟩) n c) ∧ wx.cell? ⟨g, o, none⟩ = some (.int .i64 (la L 0).kind)) from fun wx h => ⟨h, hb4.more h, (hb4.more h).c0, (hb4.more h).c1, (h.cell (World.block_lt_of_cell? w2 _ z2)).trans z2⟩)
                    first
                      | go_region_held3 (fun wx => Below w2.heap.size w2 wx ∧ Boxed w wx K (some ⟨g, o, none⟩) n c ∧ wx.cell? ⟨w.heap.size, 0, none⟩ = some (.int .i64 K) ∧ wx.cell? ⟨w.heap.size, 1, none⟩ = some (.slice (some ⟨g, o, none⟩) n c) ∧ wx.cell? ⟨g, o, none⟩ = some (.int .i64 (la L 0).kind)) (first | assumption | exact KP.out _ (Below.refl _ _).drew | exact KP.out _ (below_chain (And.left (by assumption)) (by assumption) (Below.size (And.left (by assumption))))) (first | (refine unwanted_step (by rfl) ?_) | (go_at_call 77; refine (ref_letters_is HLB.out (some ⟨g, o, none⟩) n c _ (hA2.below (And.left (by assumption))) hn1000).mono ?_; rintro e wx ⟨rfl, hb5⟩) | (go_at_call 78; refine (ref_Walks_len HQ.out (some ⟨g, o, none⟩) n c _ (hA2.below (And.left (by assumption))) HG.out hn1000).mono ?_; rintro e wy ⟨⟨A7, c7, rfl⟩, hb6⟩) | (go_at_call 30; refine (ref_Crossings_is HX2.out K (some ⟨g, o, none⟩) c _ (hA2.below (And.left (by assumption)))).mono ?_; rintro e wz ⟨rfl, hb7⟩))
                      | fail
                    all_goals
                      have hbf := hb4.more (And.left (show Below w2.heap.size w2 _ ∧ _ by assumption))
                      go_wp2_with fail
                      go_ret
                      exact ⟨ret_int HF.out.symm, hbf.below⟩
              · have hp1 : ((pN L n : Int) % 2 != 0) = true := by simp; omega
                have HF := Lib.hid (show checkE K L = 3 by rw [HV.out, hvd.out]; simp [hp])
                clear hp
                go_enter Tryd.func21, Tryd.ntmps21
                go_wp2_with fail
                refine (ref_visits K (some ⟨g, o, none⟩) n c L _ (hA.below hbx.below)).mono ?_
                rintro e w1 ⟨rfl, hb1⟩
                have hb2 := hbx.more hb1
                have c0 := hb2.c0
                have c1 := hb2.c1
                go_wp2_with fail
                refine (ref_Passes K (some ⟨g, o, none⟩) n c L _ (hA.below hb2.below)).mono ?_
                rintro e w2 ⟨rfl, hb3⟩
                have hb4 := hb2.more hb3
                clear c0 c1 hb1 hb2 hb3
                have c0 := hb4.c0
                have c1 := hb4.c1
                have z2 : w2.cell? ⟨g, o, none⟩ = some (.int .i64 (la L 0).kind) := (hb4.below.cell (p := ⟨g, o, none⟩) hgl).trans hzw
                have hA2 := hA.below hb4.below
                go_wp2_with fail
                go_quiet (fail)
                go_wp2_with fail
                go_ret
                exact ⟨ret_int HF.out.symm, below_drewN hb4.below _⟩
            · have hk1 : ((la L 0).kind != 1) = true := by simpa using hk
              have HF := Lib.hid (show checkE K L = 3 by rw [HV.out, hvd.out, isP_f hk]; simp)
              clear hk
              go_enter Tryd.func21, Tryd.ntmps21
              go_wp2_with fail
              refine (ref_visits K (some ⟨g, o, none⟩) n c L _ (hA.below hbx.below)).mono ?_
              rintro e w1 ⟨rfl, hb1⟩
              have hb2 := hbx.more hb1
              have c0 := hb2.c0
              have c1 := hb2.c1
              go_wp2_with fail
              refine (ref_Passes K (some ⟨g, o, none⟩) n c L _ (hA.below hb2.below)).mono ?_
              rintro e w2 ⟨rfl, hb3⟩
              have hb4 := hb2.more hb3
              clear c0 c1 hb1 hb2 hb3
              have c0 := hb4.c0
              have c1 := hb4.c1
              have z2 : w2.cell? ⟨g, o, none⟩ = some (.int .i64 (la L 0).kind) := (hb4.below.cell (p := ⟨g, o, none⟩) hgl).trans hzw
              have hA2 := hA.below hb4.below
              go_wp2_with fail
              go_quiet (fail)
              go_wp2_with fail
              go_ret
              exact ⟨ret_int HF.out.symm, below_drewN hb4.below _⟩
end Go.Proofs.YtkjcmppaapbabaaDoor
