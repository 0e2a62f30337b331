/-
  Contracts: slices.Compare, slices.Equal, line.normal, line.Normal, line.Same. Conditions: the slices read as lists of ints.
-/
import Derived.Test.YtpdkonpnhalecaaDoorB8
namespace Go.Proofs.YtpdkonpnhalecaaDoor
open Go.RowKit

theorem isNaN_any (x : Int) (w : World) : Calls Tryd.prog 91 #[.int .i64 x] w fun e w' => e = .returned (.bool false) ∧ w' = w := by
  go_enter Tryd.func91, Tryd.ntmps91
  go_wp2
  go_ret
  exact ⟨ret_bool (by simp), rfl⟩
def cmpI (x y : Int) : Int := if x < y then -1 else if y < x then 1 else 0
theorem cmp_any (x y : Int) (w : World) : Calls Tryd.prog 75 #[.int .i64 x, .int .i64 y] w fun e w' => e = .returned (.int .i64 (cmpI x y)) ∧ w' = w := by
  by_cases h1 : x < y
  · have hf := Lib.hid (show cmpI x y = -1 by unfold cmpI; rw [if_pos h1])
    go_enter Tryd.func75, Tryd.ntmps75
    go_wp2_with (first | (go_at_call 91; refine (isNaN_any _ _).mono ?_; rintro e w' ⟨rfl, rfl⟩))
    go_ret
    exact ⟨ret_int hf.out.symm, rfl⟩
  · by_cases h2 : y < x
    · have hf := Lib.hid (show cmpI x y = 1 by unfold cmpI; rw [if_neg h1, if_pos h2])
      go_enter Tryd.func75, Tryd.ntmps75
      go_wp2_with (first | (go_at_call 91; refine (isNaN_any _ _).mono ?_; rintro e w' ⟨rfl, rfl⟩))
      go_ret
      exact ⟨ret_int hf.out.symm, rfl⟩
    · have hf := Lib.hid (show cmpI x y = 0 by unfold cmpI; rw [if_neg h1, if_neg h2])
      go_enter Tryd.func75, Tryd.ntmps75
      go_wp2_with (first | (go_at_call 91; refine (isNaN_any _ _).mono ?_; rintro e w' ⟨rfl, rfl⟩))
      go_ret
      exact ⟨ret_int hf.out.symm, rfl⟩
theorem cmpS_same {x : Int} {A B : List Int} {i : Nat} (ha : A[i]? = some x) (hb : B[i]? = some x) : cmpS (A.drop i) (B.drop i) = cmpS (A.drop (i + 1)) (B.drop (i + 1)) := by
  obtain ⟨h1, e1⟩ := List.getElem?_eq_some_iff.1 ha
  obtain ⟨h2, e2⟩ := List.getElem?_eq_some_iff.1 hb
  rw [List.drop_eq_getElem_cons h1, List.drop_eq_getElem_cons h2, e1, e2, cmpS, if_neg (by omega), if_neg (by omega)]
theorem cmpS_diff {x y : Int} {A B : List Int} {i : Nat} (ha : A[i]? = some x) (hb : B[i]? = some y) (h : x ≠ y) : cmpS (A.drop i) (B.drop i) = cmpI x y ∧ cmpI x y ≠ 0 := by
  obtain ⟨h1, e1⟩ := List.getElem?_eq_some_iff.1 ha
  obtain ⟨h2, e2⟩ := List.getElem?_eq_some_iff.1 hb
  rw [List.drop_eq_getElem_cons h1, List.drop_eq_getElem_cons h2, e1, e2, cmpS]
  unfold cmpI
  by_cases h3 : x < y
  · rw [if_pos h3, if_pos h3]; exact ⟨rfl, by decide⟩
  · rw [if_neg h3, if_neg h3, if_pos (by omega), if_pos (by omega)]; exact ⟨rfl, by decide⟩

set_option maxHeartbeats 800000 in
/-- At two lists of one length. -/
theorem slices_compare (A B : Option Addr) (n c d : Nat) (L M : List Int) (w : World) (hA : Ints w A n L) (hB : Ints w B n M) :
    Calls Tryd.prog 52 #[.slice A n c, .slice B n d] w fun e w' => e = .returned (.int .i64 (cmpS L M)) ∧ w' = w := by
  have hle := hA.le
  have HL := Lib.hid hA.len
  have HM := Lib.hid hB.len
  go_enter Tryd.func52, Tryd.ntmps52
  go_wp2_with fail
  go_loop [11] (fun i => ∃ k : Nat, k ≤ n ∧ i = .int .i64 k ∧ Hid (cmpS (L.drop k) (M.drop k) = cmpS L M)) (fun i => n - (intOf i).toNat)
  case atStart => exact ⟨0, Nat.zero_le _, rfl, rfl⟩
  case round =>
    obtain ⟨k, hk, rfl, heq⟩ := hrel
    by_cases hlt : k < n
    · obtain ⟨ad, x, rfl, hx, hx1, hx2, hc⟩ := hA.at_ hlt
      obtain ⟨bd, y, rfl, hy, hy1, hy2, hd⟩ := hB.at_ hlt
      by_cases hxy : x = y
      · subst hxy
        have hn' := Lib.hid ((cmpS_same hx.out hy.out).symm.trans heq.out)
        have h0 : cmpI x x = 0 := by unfold cmpI; rw [if_neg (by omega), if_neg (by omega)]
        go_wp2_with (first | (go_at_call 75; refine (cmp_any _ _ _).mono ?_; rintro e w' ⟨rfl, rfl⟩))
        go_round
        case rel => exact ⟨k + 1, by omega, by go_num, hn'⟩
        case measure => simp [intOf]; omega
      · obtain ⟨h1, h2⟩ := cmpS_diff hx.out hy.out hxy
        have hf := Lib.hid (h1.symm.trans heq.out)
        have h2' : (cmpI x y != 0) = true := by simpa using h2
        clear h1 h2 hxy
        go_wp2_with (first | (go_at_call 75; refine (cmp_any _ _ _).mono ?_; rintro e w' ⟨rfl, rfl⟩))
        go_ret
        exact ⟨ret_int hf.out, rfl⟩
    · go_wp2_with fail
      go_ret
      have hkn : k = n := by omega
      subst hkn
      refine ⟨ret_int ?_, rfl⟩
      rw [← heq.out, List.drop_of_length_le (by rw [HL.out]; exact Nat.le_refl _), List.drop_of_length_le (by rw [HM.out]; exact Nat.le_refl _)]
      rfl

set_option maxHeartbeats 800000 in
theorem slices_equal (A B : Option Addr) (n m c d : Nat) (L M : List Int) (w : World) (hA : Ints w A n L) (hB : Ints w B m M) :
    Calls Tryd.prog 31 #[.slice A n c, .slice B m d] w fun e w' => e = .returned (.bool (L == M)) ∧ Drawn w w' := by
  have hle := hA.le
  have hle' := hB.le
  have HL := Lib.hid hA.len
  have HM := Lib.hid hB.len
  by_cases hnm : n = m
  · subst hnm
    go_enter Tryd.func31, Tryd.ntmps31
    go_wp2
    go_loopw [13] (fun i wr => ∃ k : Nat, k ≤ n ∧ i = .int .i64 k ∧ Hid (L.take k = M.take k) ∧ Drawn w wr) (fun i _ => n - (intOf i).toNat)
    case atStart => exact ⟨0, Nat.zero_le _, rfl, by simp [Hid], Drawn.refl w⟩
    case round =>
      obtain ⟨k, hk, rfl, heq, m, rfl⟩ := hrel
      by_cases hlt : k < n
      · obtain ⟨ad, x, rfl, hx, hx1, hx2, hc⟩ := hA.at_ hlt
        obtain ⟨bd, y, rfl, hy, hy1, hy2, hd⟩ := hB.at_ hlt
        by_cases hxy : x = y
        · subst hxy
          go_wp2
          go_quiet (fail)
          go_wp2
          go_roundw
          case rel => exact ⟨k + 1, by omega, by go_num, by unfold Hid; rw [List.take_add_one, List.take_add_one, heq.out, hx.out, hy.out], drawn1 _ _⟩
          case measure => simp [intOf]; omega
        · have hf := Lib.hid (show (L == M) = false by
            rw [beq_eq_false_iff_ne]; intro e; subst e; rw [hx.out] at hy; exact hxy (Option.some.inj hy.out))
          have hxy' : (x != y) = true := by simpa using hxy
          clear hxy
          go_wp2
          go_quiet (fail)
          go_wp2
          go_ret
          exact ⟨ret_bool hf.out.symm, by first | exact drawn2 _ _ _ | exact drawn1 _ _⟩
      · go_wp2
        go_ret
        refine ⟨ret_bool ?_, m, rfl⟩
        have h := heq.out
        rw [List.take_of_length_le (by rw [HL.out]; omega), List.take_of_length_le (by rw [HM.out]; omega)] at h
        rw [h]; simp
  · have hf := Lib.hid (show (L == M) = false by
      rw [beq_eq_false_iff_ne]; intro e; subst e; exact hnm (HL.out.symm.trans HM.out))
    go_enter Tryd.func31, Tryd.ntmps31
    go_wp2
    go_ret
    exact ⟨ret_bool hf.out.symm, Drawn.refl w⟩

theorem of_errW {L : List Int} (h : errW L = 0) : wordB L = true := by
  unfold errW at h
  by_cases h1 : 400 < L.length
  · rw [if_pos h1] at h; cases h
  · rw [if_neg h1] at h
    cases hv : wordB L
    · rw [hv] at h; cases h
    · rfl

set_option maxHeartbeats 800000 in
theorem line_normal_ (A : Option Addr) (n c : Nat) (L : List Int) (w : World) (hA : Ints w A n L) (hn : n ≤ 400) (h40 : In40 L) :
    Calls Tryd.prog 32 #[.slice A n c] w fun e w' => ∃ A' m c', e = .returned (.slice A' m c') ∧ Own w' w.heap.size A' m c' (normalL L) ∧ Below w.heap.size w w' := by
  have hr40 : Hid (∀ x ∈ reduceL L, -1000 ≤ x ∧ x ≤ 1000) := fun x hx => by have := h40 x (mem_reduceL hx); omega
  have hr41 : Hid (∀ x ∈ (reduceL L).reverse, -1000 ≤ x ∧ x ≤ 1000) := fun x hx => hr40.out x (List.mem_reverse.1 hx)
  have hrl : Hid ((reduceL L).length ≤ 400) := Nat.le_trans (reduceL_len L) (by rw [hA.len]; exact hn)
  clear h40
  go_enter Tryd.func32, Tryd.ntmps32
  go_wp2_with fail
  refine (line_reduce _ _ _ _ _ hA hn).mono ?_
  rintro e w1 ⟨A1, m, c1, rfl, hown, hb⟩
  have hml : m ≤ 400 := by have := hrl.out; rw [hown.len] at this; exact this
  rcases Nat.eq_zero_or_pos m with h0 | h0
  · subst h0
    have hnil : Hid (normalL L = []) := by
      have : reduceL L = [] := List.eq_nil_of_length_eq_zero hown.len
      unfold Hid normalL; rw [if_pos this]
    go_wp2_with fail
    go_ret
    exact ⟨_, _, _, rfl, by rw [hnil.out]; exact Own.nil _ _, hb⟩
  · have hm0 : ((m : Int) == 0) = false := by simp; omega
    have hne : Hid (reduceL L ≠ []) := by intro e; have := hown.len; rw [e] at this; simp at this; omega
    have hcap := hown.cap
    have hI1 := hown.ints
    go_wp2_with fail
    refine (line_least _ _ _ _ _ hI1 hr40.out h0 hml hcap).mono ?_
    rintro e w2 ⟨A2, c2, rfl, hown2, hb2⟩
    have hI1' := hI1.below hb2
    go_wp2_with fail
    refine (line_reverse_ _ _ _ _ _ hI1').mono ?_
    rintro e w3 ⟨A3, c3, rfl, hown3, hb3⟩
    have hown2' := hown2.below hb3
    have hcap3 := hown3.cap
    go_wp2_with fail
    refine (line_least _ _ _ _ _ hown3.ints hr41.out h0 hml hcap3).mono ?_
    rintro e w4 ⟨A4, c4, rfl, hown4, hb4⟩
    have hown2'' := hown2'.below hb4
    have hb24 := hb2.trans (hb3.mono hb2.size)
    have hbA : Below w.heap.size w w4 := (hb.trans (hb2.mono hb.size)).trans ((hb3.trans (hb4.mono hb3.size)).mono (Nat.le_trans hb.size hb2.size))
    have hs1 := hb.size
    have hs2 := Nat.le_trans hs1 (Nat.le_trans hb2.size hb3.size)
    have hI4 := hown4.ints
    have hI2 := hown2''.ints
    have hf4 := hown4.mono hs2
    have hf2 := hown2''.mono hs1
    by_cases hneg : cmpS (leastL (reduceL L).reverse) (leastL (reduceL L)) < 0
    · have hres : Hid (normalL L = leastL (reduceL L).reverse) := by unfold Hid normalL; rw [if_neg hne.out, if_pos hneg]
      clear hb hb2 hb3 hb4 hb24 hown hown2 hown2' hown3 hI1 hI1'
      go_wp2_with (first | (go_at_call 52; refine (slices_compare _ _ _ _ _ _ _ _ hI4 hI2).mono ?_; rintro e w' ⟨rfl, rfl⟩))
      go_ret
      exact ⟨_, _, _, rfl, by rw [hres.out]; exact hf4, hbA⟩
    · have hres : Hid (normalL L = leastL (reduceL L)) := by unfold Hid normalL; rw [if_neg hne.out, if_neg hneg]
      clear hb hb2 hb3 hb4 hb24 hown hown2 hown2' hown3 hI1 hI1'
      go_wp2_with (first | (go_at_call 52; refine (slices_compare _ _ _ _ _ _ _ _ hI4 hI2).mono ?_; rintro e w' ⟨rfl, rfl⟩))
      go_ret
      exact ⟨_, _, _, rfl, by rw [hres.out]; exact hf2, hbA⟩

set_option maxHeartbeats 400000 in
theorem line_Normal (A : Option Addr) (n c : Nat) (L : List Int) (w : World) (hA : Ints w A n L) :
    Calls Tryd.prog 33 #[.slice A n c] w (Gives w (okL (errW L) (normalL L)) (errW L)) := by
  have hb1 : Below w.heap.size w (w.alloc (.cells #[.slice A n c] 28)) := (Below.refl _ _).alloc (Nat.le_refl _) _
  by_cases h : errW L = 0
  · rw [okL_yes h, h]
    have HE := Lib.hid h
    have hw := of_errW h
    have h400 : n ≤ 400 := by rw [← hA.len]; exact (len_of_wordB hw).1
    have h40 := Lib.hid (in40_of_wordB hw)
    clear h hw
    go_enter Tryd.func33, Tryd.ntmps33
    go_wp2_with fail
    refine (line_check _ _ _ _ _ (many_one hA) rfl (by simp)).mono ?_
    rintro e w' ⟨rfl, rfl⟩
    rw [errs_one, HE.out]
    go_wp2_with fail
    refine (line_normal_ _ _ _ _ _ (hA.alloc _) h400 h40.out).mono ?_
    rintro e w1 ⟨A1, m1, c1, rfl, hown, hb⟩
    have hb2 := below_chain hb1 hb hb1.size
    have hown2 := hown.mono hb1.size
    clear hb1 hb hown
    go_wp2_with fail
    go_ret2
    exact gives_own hown2 rfl hb2
  · rw [okL_no h]
    have hne : (errW L != 0) = true := by simpa using h
    have HE := Lib.hid (errs_one A n c L)
    clear h
    obtain ⟨er, her⟩ : ∃ er, er = errW L := ⟨_, rfl⟩
    rw [← her] at hne ⊢
    rw [← her] at HE
    clear her
    go_enter Tryd.func33, Tryd.ntmps33
    go_wp2_with fail
    refine (line_check _ _ _ _ _ (many_one hA) rfl (by simp)).mono ?_
    rintro e w' ⟨rfl, rfl⟩
    rw [HE.out]
    go_wp2_with fail
    go_ret2
    exact gives_nil rfl hb1

end Go.Proofs.YtpdkonpnhalecaaDoor
