/-
  Walk: LineReduces returns true. Conditions: the slice reads.
-/
import Derived.Test.YtnlggiimgihmcaaDoorE2
import Derived.Test.YtnlggiimgihmcaaDoorP10
namespace Go.Proofs.YtnlggiimgihmcaaDoor
open Go.RowKit
theorem Own.one {w : World} {base : Nat} {x : Int} (hx : I64 x) (hb : base ≤ w.heap.size) : Own (w.alloc (.cells #[.int .i64 x] 3)) base (some ⟨w.heap.size, 0, none⟩) 1 1 [x] := by
  refine ⟨⟨rfl, .inr ⟨w.heap.size, 1, _, rfl, hb, heap_alloc_new w _, Nat.le_refl _, by decide, rfl, rfl⟩⟩, rfl, by omega, ?_⟩
  intro z hz
  simp at hz
  subst hz
  exact hx
theorem Own.oneAt {w : World} {base k : Nat} {x : Int} (hx : I64 x) (hb : base ≤ w.heap.size) (hk : w.heap.size = k) : Own (w.alloc (.cells #[.int .i64 x] 3)) base (some ⟨k, 0, none⟩) 1 1 [x] := by
  subst hk
  exact Own.one hx hb
theorem Ints.oneAt {w : World} {t : TypeId} {x : Int} {k : Nat} (hx : I64 x) (hk : w.heap.size = k) : Ints (w.alloc (.cells #[.int .i64 x] t)) (some ⟨k, 0, none⟩) 1 [x] := by
  subst hk
  exact Ints.one hx
theorem Ints.drewD {w : World} {A : Option Addr} {n : Nat} {L : List Int} (h : Ints w A n L) : Ints w.drew A n L := h
theorem Ints.grow1 {w w' : World} {k n : Nat} {L : List Int} {row : Option Nat} (h : Ints w (some ⟨k, 0, none⟩) n L) (hg : w.grownBy w' row) (hne : row ≠ some k) : Ints w' (some ⟨k, 0, none⟩) n L := by
  refine ⟨h.1, h.2.1, h.2.2.1, fun hn => ?_⟩
  obtain ⟨ad, e, hb, hc⟩ := h.2.2.2 hn
  obtain rfl := Option.some.inj e
  refine ⟨_, rfl, Nat.lt_of_lt_of_le hb hg.size, fun j x hx => ?_⟩
  rw [← hc j x hx]
  exact World.cell?_of_block (hg.block _ (by rw [block_of_add]; exact hb) (by rw [block_of_add]; exact fun h => hne h.symm))
theorem Own.oneG {w : World} {base n c : Nat} {x : Int} {o : Obj} {A : Option Addr} {L : List Int} (hx : I64 x) (ho : o = .cells #[.int .i64 x] 3) (hn : n = 1) (hc : c = 1) (hL : L = [x]) (hA : A = some ⟨w.heap.size, 0, none⟩)
    (hb : base ≤ w.heap.size) : Own (w.alloc o) base A n c L := by
  subst ho; subst hA; subst hn; subst hc; subst hL
  exact Own.oneAt hx hb rfl
theorem Ints.oneG {w : World} {n : Nat} {x : Int} {o : Obj} {A : Option Addr} {L : List Int} (hx : I64 x) (ho : o = .cells #[.int .i64 x] 3) (hn : n = 1) (hL : L = [x]) (hA : A = some ⟨w.heap.size, 0, none⟩) : Ints (w.alloc o) A n L := by
  subst ho; subst hA; subst hn; subst hL
  exact Ints.oneAt hx rfl
theorem Ints.growG {w w' : World} {n : Nat} {L : List Int} {row : Option Nat} {A : Option Addr} (hg : w.grownBy w' row) (hne : ∀ a, A = some a → row ≠ some a.block) (h : Ints w A n L) : Ints w' A n L := by
  refine ⟨h.1, h.2.1, h.2.2.1, fun hn => ?_⟩
  obtain ⟨ad, e, hb, hc⟩ := h.2.2.2 hn
  refine ⟨ad, e, Nat.lt_of_lt_of_le hb hg.size, fun j x hx => ?_⟩
  rw [← hc j x hx]
  exact World.cell?_of_block (hg.block _ (by rw [block_of_add]; exact hb) (by rw [block_of_add]; exact fun h => hne ad e h.symm))
/-- A step of a region: the slices are read off the frame first. -/
theorem stepS2 {w : World} {ops : Array Oper} {o : Oper} {a : Act} {K : Act → World → Prop} {Q : Exit → Act → World → Prop} {E : Prop} (hgd : o.guard = none) (s x : Operand)
    (ho : o.op = .call { callee := .builtin .append, args := #[s, x], argTypes := #[22, 22] }) (hty : o.type = 22)
    {base : Nat} {A : Option Addr} {n c : Nat} {L : List Int} {B : Option Addr} {m d : Nat} {M : List Int} (hs : a.eval s = .slice A n c)
    (hx : a.eval x = .slice B m d) (hown : Own w base A n c L) (hB : Ints w B m M) (N : Nat) (hN : n + m = N) (hn : N ≤ 17592186044416) (hbase : base ≤ w.heap.size)
    (h : ∀ A' c' w', Own w' base A' N c' (L ++ M) → Below base w w' → w.grownBy w' (blk A) → (blk A' = blk A ∨ blk A' = some w.heap.size) → K (a.put o.dst (.slice A' N c')) w') :
    if Region.wanted o (yielded ops a.tmps) = true then Oper.wp Tryd.prog o a w K Q else E :=
  stepS hgd s x ho hty hown hB hs hx N hN hn hbase h
theorem line_reduced_is {b : Bool} {L : List Int} (h : redB L = b) (A : Option Addr) (n c : Nat) (w : World) (hA : Ints w A n L) :
    Calls Tryd.prog 21 #[.slice A n c] w fun e w' => e = .returned (.bool b) ∧ w' = w := by
  subst h
  exact line_reduced A n c L w hA
set_option maxHeartbeats 3200000 in
set_option maxRecDepth 100000 in
theorem lineReduces_any (A : Option Addr) (n c : Nat) (L : List Int) (at_ g : Int) (w : World) (hA : Ints w A n L) (hcap : n ≤ c) (hat : I64 at_) (hg : I64 g) :
    Calls Tryd.prog 13 #[.slice A n c, .int .i64 at_, .int .i64 g] w fun e w' => e = .returned (.bool true) ∧ Below w.heap.size w w' := by
  obtain ⟨ha1, ha2⟩ := hat
  obtain ⟨hg1, hg2⟩ := hg
  have hle := hA.le
  have HL := Lib.hid hA.len
  cases hv : wordB L with
  | false =>
    have HV := Lib.hid hv
    clear hv
    have w_0 := hA
    have B_0 := Below.refl w.heap.size w
    go_enter Tryd.func13, Tryd.ntmps13
    go_wp2_with (first | (go_at_call 43; refine (ref_word_is HV.out _ _ _ _ w_0).mono ?_; rintro e w' ⟨rfl, rfl⟩))
    refine (law_known _).mono ?_
    rintro e u1 ⟨rfl, hb⟩
    have B_1 := below_chain B_0 hb B_0.size
    clear B_0 hb
    go_wp2_with fail
    go_ret
    exact ⟨rfl, B_1⟩
  | true =>
    have HV := Lib.hid hv
    have HW := Lib.hid (errW_of hv)
    have heL := wordB_even hv
    by_cases c1 : 398 < n
    · clear hv
      have w_0 := hA
      have B_0 := Below.refl w.heap.size w
      go_enter Tryd.func13, Tryd.ntmps13
      go_wp2_with (first | (go_at_call 43; refine (ref_word_is HV.out _ _ _ _ w_0).mono ?_; rintro e w' ⟨rfl, rfl⟩))
      refine (law_known _).mono ?_
      rintro e u1 ⟨rfl, hb⟩
      have B_1 := below_chain B_0 hb B_0.size
      clear B_0 hb
      go_wp2_with fail
      go_ret
      exact ⟨rfl, B_1⟩
    · by_cases c2 : at_ < 0
      · clear hv
        have w_0 := hA
        have B_0 := Below.refl w.heap.size w
        go_enter Tryd.func13, Tryd.ntmps13
        go_wp2_with (first | (go_at_call 43; refine (ref_word_is HV.out _ _ _ _ w_0).mono ?_; rintro e w' ⟨rfl, rfl⟩))
        refine (law_known _).mono ?_
        rintro e u1 ⟨rfl, hb⟩
        have B_1 := below_chain B_0 hb B_0.size
        clear B_0 hb
        go_wp2_with fail
        go_ret
        exact ⟨rfl, B_1⟩
      · by_cases c3 : (n : Int) + 1 < at_
        · clear hv
          have w_0 := hA
          have B_0 := Below.refl w.heap.size w
          go_enter Tryd.func13, Tryd.ntmps13
          go_wp2_with (first | (go_at_call 43; refine (ref_word_is HV.out _ _ _ _ w_0).mono ?_; rintro e w' ⟨rfl, rfl⟩))
          refine (law_known _).mono ?_
          rintro e u1 ⟨rfl, hb⟩
          have B_1 := below_chain B_0 hb B_0.size
          clear B_0 hb
          go_wp2_with fail
          go_ret
          exact ⟨rfl, B_1⟩
        · by_cases c4 : g < 0
          · clear hv
            have w_0 := hA
            have B_0 := Below.refl w.heap.size w
            go_enter Tryd.func13, Tryd.ntmps13
            go_wp2_with (first | (go_at_call 43; refine (ref_word_is HV.out _ _ _ _ w_0).mono ?_; rintro e w' ⟨rfl, rfl⟩))
            refine (law_known _).mono ?_
            rintro e u1 ⟨rfl, hb⟩
            have B_1 := below_chain B_0 hb B_0.size
            clear B_0 hb
            go_wp2_with fail
            go_ret
            exact ⟨rfl, B_1⟩
          · by_cases c5 : 40 < g
            · clear hv
              have w_0 := hA
              have B_0 := Below.refl w.heap.size w
              go_enter Tryd.func13, Tryd.ntmps13
              go_wp2_with (first | (go_at_call 43; refine (ref_word_is HV.out _ _ _ _ w_0).mono ?_; rintro e w' ⟨rfl, rfl⟩))
              refine (law_known _).mono ?_
              rintro e u1 ⟨rfl, hb⟩
              have B_1 := below_chain B_0 hb B_0.size
              clear B_0 hb
              go_wp2_with fail
              go_ret
              exact ⟨rfl, B_1⟩
            · by_cases c6 : (n : Int) < at_
              · by_cases c7 : n = 0
                · subst c7
                  clear hv
                  have w_0 := hA
                  have B_0 := Below.refl w.heap.size w
                  go_enter Tryd.func13, Tryd.ntmps13
                  go_wp2_with (first | (go_at_call 43; refine (ref_word_is HV.out _ _ _ _ w_0).mono ?_; rintro e w' ⟨rfl, rfl⟩))
                  refine (law_known _).mono ?_
                  rintro e u1 ⟨rfl, hb⟩
                  have B_1 := below_chain B_0 hb B_0.size
                  clear B_0 hb
                  go_wp2_with fail
                  go_ret
                  exact ⟨rfl, B_1⟩
                · obtain ⟨x, r, hL⟩ : ∃ x r, L = x :: r := by
                      cases L with
                      | nil => have := hA.len; simp at this; omega
                      | cons x r => exact ⟨x, r, rfl⟩
                  have hwm := wordB_ends (x := x) (g := g) (r := r) (by rw [← hL]; exact hv) (by rw [← hL, hA.len]; omega) (by omega) (by omega)
                  have hE : Eqv L ([g] ++ r ++ [x] ++ [g]) := by rw [hL]; exact (eqv_ends (by rw [← hL]; exact heL)).symm
                  have hMM : [g] ++ L.drop 1 ++ [x] ++ [g] = [g] ++ r ++ [x] ++ [g] := by rw [hL]; rfl
                  obtain ⟨M, hM⟩ : ∃ M, M = [g] ++ r ++ [x] ++ [g] := ⟨_, rfl⟩
                  rw [← hM] at hwm hE hMM
                  have HM := Lib.hid hMM
                  have hx0 : L[0]? = some x := by rw [hL]; rfl
                  have hev : n % 2 = 0 := by rw [← hA.len]; exact heL
                  clear hM hMM hL
                  have HWm := Lib.hid (errW_of hwm)
                  have HS : Hid (errS L M = 0) := by unfold Hid errS; rw [if_pos HW.out, HWm.out]
                  have hnm : normalL L = normalL M := hE.normal heL
                  have HSB : Hid (sameB L M = true) := by unfold Hid sameB; rw [hnm]; exact beq_self_eq_true _
                  have E1 : Hid ((normalL L == normalL M) = true) := by unfold Hid; rw [hnm]; exact beq_self_eq_true _
                  have E2 : Hid ((normalL L == normalL (normalL L)) = true) := by unfold Hid; rw [normalL_idem heL]; exact beq_self_eq_true _
                  have HWx := Lib.hid (errW_of (wordB_normalL hv))
                  have HR := Lib.hid (redB_normalL hv)
                  clear hwm hnm hE hv heL
                  have h0' : ((n : Int) == 0) = false := by simp; omega
                  have hn : 0 < n := by omega
                  have hn1 : 1 ≤ n := hn
                  obtain ⟨ad, x', rfl, hx', hx1, hx2, hc⟩ := hA.at_ hn
                  obtain rfl : x = x' := by have := hx'.out; rw [hx0] at this; exact Option.some.inj this
                  have hx64 : Hid (I64 x) := ⟨hx1, hx2⟩
                  have hg64 : Hid (I64 g) := ⟨hg1, hg2⟩
                  have hc' : w.cell? ad = some (.int .i64 x) := by simpa [Addr.add] using hc
                  have b1 : (1 : Int) ≤ (n : Int) := by omega
                  have b2 : (1 : Int) ≤ (c : Int) := by omega
                  have b3 : (0 : Int) < (n : Int) := by omega
                  have hc1 : ¬c = 1 := by omega
                  have hF := Ints.from (c := c) hA hn1 hcap
                  rw [if_neg hc1] at hF
                  clear hc hx' hx0 c7
                  go_enter Tryd.func13, Tryd.ntmps13
                  go_upto_region 7 with (first | (go_at_call 43; refine (ref_word_is HV.out _ _ _ _ hA).mono ?_; rintro e w' ⟨rfl, rfl⟩))
                  go_cut [7] (fun v wx => ∃ (B : Option Addr) (m d : Nat), v = .slice B m d ∧ Ints wx B m M ∧ m ≤ d ∧ Below w'.heap.size w' wx)
                  case first =>
                    go_region_held3 (fun wx => Below w'.heap.size w' wx ∧ wx.cell? ad = some (.int .i64 x))
                      (first | exact keepS hc' (Below.refl _ _).drew | exact keepT hc' (by assumption) (by assumption) | exact keepA hc' (by assumption) _)
                      (first
                        | ((refine stepS2 (base := w'.heap.size) (L := [g]) rfl (.tmp 53) (.tmp 55) (by rfl) (by rfl) (by rfl) (by rfl) (by repeat (first | with_reducible apply Own.drew | ((with_reducible refine Own.oneG hg64.out ?_ ?_ ?_ ?_ ?_ ?_); rfl; rfl; rfl; rfl; (focus (simp; done)); (focus (first | (simp; done) | (simp; omega)))) | with_reducible apply Own.alloc)) (hF.below (And.left (by assumption))) n (by omega) (by omega) (Below.size (And.left (by assumption))) ?_; intro A1 c1 w1 hown1 hb1 hg1 hl1))
                        | ((refine stepS2 (base := w'.heap.size) (M := [x]) rfl (.tmp 56) (.tmp 60) (by rfl) (by rfl) (by rfl) (by rfl) (by repeat (first | with_reducible exact hown1 | with_reducible apply Own.drew | with_reducible apply Own.alloc)) (by repeat (first | with_reducible apply Ints.drewD | ((with_reducible refine Ints.oneG hx64.out ?_ ?_ ?_ ?_); rfl; rfl; rfl; focus (simp; done)) | with_reducible apply Ints.alloc | ((with_reducible refine Ints.growG hg1 ?_ ?_); focus (intro a ha; cases ha; first | (simp [blk]; done) | (simp [blk]; omega))))) (n + 1) (by omega) (by omega) (Below.size (And.left (by assumption))) ?_; intro A2 c2 w2 hown2 hb2 hg2 hl2))
                        | ((refine stepS2 (base := w'.heap.size) (M := [g]) rfl (.tmp 61) (.tmp 63) (by rfl) (by rfl) (by rfl) (by rfl) (by repeat (first | with_reducible exact hown2 | with_reducible apply Own.drew | with_reducible apply Own.alloc)) (by repeat (first | with_reducible apply Ints.drewD | ((with_reducible refine Ints.oneG hg64.out ?_ ?_ ?_ ?_); rfl; rfl; rfl; focus (simp; done)) | with_reducible apply Ints.alloc | ((with_reducible refine Ints.growG hg2 ?_ ?_); focus (intro a ha; cases ha; first | (intro h; have h2 := (hown1.lt _ h).2; simp at h2; done) | (intro h; have h2 := (hown1.lt _ h).2; simp at h2; omega) | (rcases hl1 with h | h <;> rw [h] <;> first | (simp [blk]; done) | (simp [blk]; omega)))) | ((with_reducible refine Ints.growG hg1 ?_ ?_); focus (intro a ha; cases ha; first | (simp [blk]; done) | (simp [blk]; omega))))) (n + 2) (by omega) (by omega) (Below.size (And.left (by assumption))) ?_; intro A3 c3 w3 hown3 hb3 hg3 hl3)))
                    all_goals
                      go_wp2_with fail
                      go_meet
                      case rel => exact ⟨_, _, _, rfl, by rw [← HM.out]; exact hown3.ints, hown3.cap, And.left (by assumption)⟩
                  case rest =>
                    obtain ⟨B, m, d, rfl, hm, hmd, hb⟩ := hcut
                    have w_0 := hA.below hb
                    have m_0 := hm
                    have B_0 := hb
                    clear hm hb
                    go_wp2_with fail
                    refine (line_Normal _ _ _ _ _ w_0).mono ?_
                    intro e u1 hg
                    obtain ⟨X1, m1, c1, rfl, hX, hb⟩ := gives_ok3 hg HW.out
                    have x_1 := hX.ints
                    have xc := hX.cap
                    have w_1 := w_0.below hb
                    have m_1 := m_0.below hb
                    have B_1 := below_chain B_0 hb B_0.size
                    clear w_0 m_0 B_0 hb
                    clear hg hX
                    go_wp2_with fail
                    refine (line_Normal _ _ _ _ _ m_1).mono ?_
                    intro e u2 hg
                    obtain ⟨X2, m2, c2, rfl, hX, hb⟩ := gives_ok3 hg HWm.out
                    have y_2 := hX.ints
                    have yc := hX.cap
                    have w_2 := w_1.below hb
                    have m_2 := m_1.below hb
                    have x_2 := x_1.below hb
                    have B_2 := below_chain B_1 hb B_1.size
                    clear w_1 m_1 x_1 B_1 hb
                    clear hg hX
                    go_wp2_with fail
                    refine (line_Normal _ _ _ _ _ x_2).mono ?_
                    intro e u3 hg
                    obtain ⟨X3, m3, c3, rfl, hX, hb⟩ := gives_ok3 hg HWx.out
                    have z_3 := hX.ints
                    have zc := hX.cap
                    have w_3 := w_2.below hb
                    have m_3 := m_2.below hb
                    have x_3 := x_2.below hb
                    have y_3 := y_2.below hb
                    have B_3 := below_chain B_2 hb B_2.size
                    clear w_2 m_2 x_2 y_2 B_2 hb
                    clear hg hX
                    go_wp2_with fail
                    refine (line_Same _ _ _ _ _ _ _ _ _ w_3 m_3).mono ?_
                    rintro e u4 ⟨rfl, hb⟩
                    rw [if_pos HS.out, HS.out, HSB.out]
                    have w_4 := w_3.below hb
                    have m_4 := m_3.below hb
                    have x_4 := x_3.below hb
                    have y_4 := y_3.below hb
                    have z_4 := z_3.below hb
                    have B_4 := below_chain B_3 hb B_3.size
                    clear w_3 m_3 x_3 y_3 z_3 B_3 hb
                    clear w_4 m_4
                    go_wp2_with (first | (go_at_call 21; refine (line_reduced_is HR.out _ _ _ _ x_4).mono ?_; rintro e w' ⟨rfl, rfl⟩))
                    refine (ref_equal _ _ _ _ _ _ _ _ _ x_4 y_4).mono ?_
                    rintro e u5 ⟨rfl, hd⟩
                    rw [E1.out]
                    have x_5 := x_4.drawn hd
                    have y_5 := y_4.drawn hd
                    have z_5 := z_4.drawn hd
                    have B_5 := B_4.trans (hd.below _)
                    clear x_4 y_4 z_4 B_4 hd
                    go_wp2_with fail
                    refine (ref_equal _ _ _ _ _ _ _ _ _ x_5 z_5).mono ?_
                    rintro e u6 ⟨rfl, hd⟩
                    rw [E2.out]
                    have x_6 := x_5.drawn hd
                    have y_6 := y_5.drawn hd
                    have z_6 := z_5.drawn hd
                    have B_6 := B_5.trans (hd.below _)
                    clear x_5 y_5 z_5 B_5 hd
                    go_wp2_with fail
                    refine (law_known _).mono ?_
                    rintro e u7 ⟨rfl, hb⟩
                    have B_7 := below_chain B_6 hb B_6.size
                    clear B_6 hb
                    go_wp2_with fail
                    go_ret
                    exact ⟨rfl, B_7⟩
              · obtain ⟨k, rfl⟩ : ∃ k : Nat, at_ = k := ⟨at_.toNat, by omega⟩
                have hkn : k ≤ n := by omega
                have hwm := wordB_insert (g := g) k hv (by rw [hA.len]; omega) (by omega) (by omega)
                have hE : Eqv L (L.take k ++ [g, g] ++ L.drop k) := (eqv_insert L k g).symm
                obtain ⟨M, hM⟩ : ∃ M, M = L.take k ++ [g, g] ++ L.drop k := ⟨_, rfl⟩
                rw [← hM] at hwm hE
                have HM := Lib.hid hM
                clear hM
                have HWm := Lib.hid (errW_of hwm)
                have HS : Hid (errS L M = 0) := by unfold Hid errS; rw [if_pos HW.out, HWm.out]
                have hnm : normalL L = normalL M := hE.normal heL
                have HSB : Hid (sameB L M = true) := by unfold Hid sameB; rw [hnm]; exact beq_self_eq_true _
                have E1 : Hid ((normalL L == normalL M) = true) := by unfold Hid; rw [hnm]; exact beq_self_eq_true _
                have E2 : Hid ((normalL L == normalL (normalL L)) = true) := by unfold Hid; rw [normalL_idem heL]; exact beq_self_eq_true _
                have HWx := Lib.hid (errW_of (wordB_normalL hv))
                have HR := Lib.hid (redB_normalL hv)
                clear hwm hnm hE hv heL
                have hg64 : Hid (I64 g) := ⟨hg1, hg2⟩
                have b0 : (0 : Int) ≤ (k : Int) := by omega
                have b1 : (k : Int) ≤ (n : Int) := by omega
                have b2 : (k : Int) ≤ (c : Int) := by omega
                rcases Nat.lt_or_ge k c with hkc | hkc
                · have hck : ¬c = k := by omega
                  have hF := Ints.from (c := c) hA hkn hcap
                  rw [if_neg hck] at hF
                  go_enter Tryd.func13, Tryd.ntmps13
                  go_upto_region 8 with (first | (go_at_call 43; refine (ref_word_is HV.out _ _ _ _ hA).mono ?_; rintro e w' ⟨rfl, rfl⟩))
                  go_cut [7] (fun v wx => ∃ (B : Option Addr) (m d : Nat), v = .slice B m d ∧ Ints wx B m M ∧ m ≤ d ∧ Below w'.heap.size w' wx)
                  case first =>
                    go_region_held3 (fun wx => Below w'.heap.size w' wx) (first | exact (Below.refl _ _).drew | exact Below.trans (by assumption) (by assumption) | exact Below.alloc (by assumption) (Below.size (by assumption)) _)
                      (first
                        | ((refine stepS rfl (.tmp 65) (.tmp 68) (by rfl) (by rfl) (Own.nil _ w'.heap.size) (Ints.to (hA.below (by assumption)) hkn) (by rfl) (by rfl) k (by omega) (by omega) (Below.size (by assumption)) ?_; intro A1 c1 w1 hown1 hb1 hg1 hl1))
                        | ((refine stepS rfl (.tmp 69) (.tmp 72) (by rfl) (by rfl) (by repeat (first | exact hown1 | apply Own.drew | apply Own.alloc)) (by first | exact (Ints.two hg64.out hg64.out).ints | exact Ints.grown0 (Ints.two hg64.out hg64.out).ints hg1 | exact Ints.grown0 ((Ints.two hg64.out hg64.out).ints.drewN 1) hg1) (by rfl) (by rfl) (k + 2) (by omega) (by omega) (Below.size (by assumption)) ?_; intro A2 c2 w2 hown2 hb2 hg2 hl2))
                        | ((refine stepS rfl (.tmp 73) (.tmp 76) (by rfl) (by rfl) (by repeat (first | exact hown2 | apply Own.drew | apply Own.alloc)) (hF.below (by assumption)) (by rfl) (by rfl) (n + 2) (by omega) (by omega) (Below.size (by assumption)) ?_; intro A3 c3 w3 hown3 hb3 hg3 hl3)))
                    all_goals
                      go_wp2_with fail
                      go_meet
                      case rel => exact ⟨_, _, _, rfl, by rw [HM.out]; exact hown3.ints, hown3.cap, by assumption⟩
                  case rest =>
                    obtain ⟨B, m, d, rfl, hm, hmd, hb⟩ := hcut
                    have w_0 := hA.below hb
                    have m_0 := hm
                    have B_0 := hb
                    clear hm hb
                    go_wp2_with fail
                    refine (line_Normal _ _ _ _ _ w_0).mono ?_
                    intro e u1 hg
                    obtain ⟨X1, m1, c1, rfl, hX, hb⟩ := gives_ok3 hg HW.out
                    have x_1 := hX.ints
                    have xc := hX.cap
                    have w_1 := w_0.below hb
                    have m_1 := m_0.below hb
                    have B_1 := below_chain B_0 hb B_0.size
                    clear w_0 m_0 B_0 hb
                    clear hg hX
                    go_wp2_with fail
                    refine (line_Normal _ _ _ _ _ m_1).mono ?_
                    intro e u2 hg
                    obtain ⟨X2, m2, c2, rfl, hX, hb⟩ := gives_ok3 hg HWm.out
                    have y_2 := hX.ints
                    have yc := hX.cap
                    have w_2 := w_1.below hb
                    have m_2 := m_1.below hb
                    have x_2 := x_1.below hb
                    have B_2 := below_chain B_1 hb B_1.size
                    clear w_1 m_1 x_1 B_1 hb
                    clear hg hX
                    go_wp2_with fail
                    refine (line_Normal _ _ _ _ _ x_2).mono ?_
                    intro e u3 hg
                    obtain ⟨X3, m3, c3, rfl, hX, hb⟩ := gives_ok3 hg HWx.out
                    have z_3 := hX.ints
                    have zc := hX.cap
                    have w_3 := w_2.below hb
                    have m_3 := m_2.below hb
                    have x_3 := x_2.below hb
                    have y_3 := y_2.below hb
                    have B_3 := below_chain B_2 hb B_2.size
                    clear w_2 m_2 x_2 y_2 B_2 hb
                    clear hg hX
                    go_wp2_with fail
                    refine (line_Same _ _ _ _ _ _ _ _ _ w_3 m_3).mono ?_
                    rintro e u4 ⟨rfl, hb⟩
                    rw [if_pos HS.out, HS.out, HSB.out]
                    have w_4 := w_3.below hb
                    have m_4 := m_3.below hb
                    have x_4 := x_3.below hb
                    have y_4 := y_3.below hb
                    have z_4 := z_3.below hb
                    have B_4 := below_chain B_3 hb B_3.size
                    clear w_3 m_3 x_3 y_3 z_3 B_3 hb
                    clear w_4 m_4
                    go_wp2_with (first | (go_at_call 21; refine (line_reduced_is HR.out _ _ _ _ x_4).mono ?_; rintro e w' ⟨rfl, rfl⟩))
                    refine (ref_equal _ _ _ _ _ _ _ _ _ x_4 y_4).mono ?_
                    rintro e u5 ⟨rfl, hd⟩
                    rw [E1.out]
                    have x_5 := x_4.drawn hd
                    have y_5 := y_4.drawn hd
                    have z_5 := z_4.drawn hd
                    have B_5 := B_4.trans (hd.below _)
                    clear x_4 y_4 z_4 B_4 hd
                    go_wp2_with fail
                    refine (ref_equal _ _ _ _ _ _ _ _ _ x_5 z_5).mono ?_
                    rintro e u6 ⟨rfl, hd⟩
                    rw [E2.out]
                    have x_6 := x_5.drawn hd
                    have y_6 := y_5.drawn hd
                    have z_6 := z_5.drawn hd
                    have B_6 := B_5.trans (hd.below _)
                    clear x_5 y_5 z_5 B_5 hd
                    go_wp2_with fail
                    refine (law_known _).mono ?_
                    rintro e u7 ⟨rfl, hb⟩
                    have B_7 := below_chain B_6 hb B_6.size
                    clear B_6 hb
                    go_wp2_with fail
                    go_ret
                    exact ⟨rfl, B_7⟩
                · obtain rfl : k = n := by omega
                  obtain rfl : c = k := by omega
                  have hF : Ints w A 0 (L.drop c) := by
                    have := Ints.from (c := c) hA hkn hcap
                    rw [if_pos rfl, Nat.sub_self] at this
                    exact this
                  go_enter Tryd.func13, Tryd.ntmps13
                  go_upto_region 8 with (first | (go_at_call 43; refine (ref_word_is HV.out _ _ _ _ hA).mono ?_; rintro e w' ⟨rfl, rfl⟩))
                  go_cut [7] (fun v wx => ∃ (B : Option Addr) (m d : Nat), v = .slice B m d ∧ Ints wx B m M ∧ m ≤ d ∧ Below w'.heap.size w' wx)
                  case first =>
                    go_region_held3 (fun wx => Below w'.heap.size w' wx) (first | exact (Below.refl _ _).drew | exact Below.trans (by assumption) (by assumption) | exact Below.alloc (by assumption) (Below.size (by assumption)) _)
                      (first
                        | ((refine stepS rfl (.tmp 65) (.tmp 68) (by rfl) (by rfl) (Own.nil _ w'.heap.size) (Ints.to (hA.below (by assumption)) hkn) (by rfl) (by rfl) c (by omega) (by omega) (Below.size (by assumption)) ?_; intro A1 c1 w1 hown1 hb1 hg1 hl1))
                        | ((refine stepS rfl (.tmp 69) (.tmp 72) (by rfl) (by rfl) (by repeat (first | exact hown1 | apply Own.drew | apply Own.alloc)) (by first | exact (Ints.two hg64.out hg64.out).ints | exact Ints.grown0 (Ints.two hg64.out hg64.out).ints hg1 | exact Ints.grown0 ((Ints.two hg64.out hg64.out).ints.drewN 1) hg1) (by rfl) (by rfl) (c + 2) (by omega) (by omega) (Below.size (by assumption)) ?_; intro A2 c2 w2 hown2 hb2 hg2 hl2))
                        | ((refine stepS rfl (.tmp 73) (.tmp 76) (by rfl) (by rfl) (by repeat (first | exact hown2 | apply Own.drew | apply Own.alloc)) (hF.below (by assumption)) (by rfl) (by rfl) (c + 2) (by omega) (by omega) (Below.size (by assumption)) ?_; intro A3 c3 w3 hown3 hb3 hg3 hl3)))
                    all_goals
                      go_wp2_with fail
                      go_meet
                      case rel => exact ⟨_, _, _, rfl, by rw [HM.out]; exact hown3.ints, hown3.cap, by assumption⟩
                  case rest =>
                    obtain ⟨B, m, d, rfl, hm, hmd, hb⟩ := hcut
                    have w_0 := hA.below hb
                    have m_0 := hm
                    have B_0 := hb
                    clear hm hb
                    go_wp2_with fail
                    refine (line_Normal _ _ _ _ _ w_0).mono ?_
                    intro e u1 hg
                    obtain ⟨X1, m1, c1, rfl, hX, hb⟩ := gives_ok3 hg HW.out
                    have x_1 := hX.ints
                    have xc := hX.cap
                    have w_1 := w_0.below hb
                    have m_1 := m_0.below hb
                    have B_1 := below_chain B_0 hb B_0.size
                    clear w_0 m_0 B_0 hb
                    clear hg hX
                    go_wp2_with fail
                    refine (line_Normal _ _ _ _ _ m_1).mono ?_
                    intro e u2 hg
                    obtain ⟨X2, m2, c2, rfl, hX, hb⟩ := gives_ok3 hg HWm.out
                    have y_2 := hX.ints
                    have yc := hX.cap
                    have w_2 := w_1.below hb
                    have m_2 := m_1.below hb
                    have x_2 := x_1.below hb
                    have B_2 := below_chain B_1 hb B_1.size
                    clear w_1 m_1 x_1 B_1 hb
                    clear hg hX
                    go_wp2_with fail
                    refine (line_Normal _ _ _ _ _ x_2).mono ?_
                    intro e u3 hg
                    obtain ⟨X3, m3, c3, rfl, hX, hb⟩ := gives_ok3 hg HWx.out
                    have z_3 := hX.ints
                    have zc := hX.cap
                    have w_3 := w_2.below hb
                    have m_3 := m_2.below hb
                    have x_3 := x_2.below hb
                    have y_3 := y_2.below hb
                    have B_3 := below_chain B_2 hb B_2.size
                    clear w_2 m_2 x_2 y_2 B_2 hb
                    clear hg hX
                    go_wp2_with fail
                    refine (line_Same _ _ _ _ _ _ _ _ _ w_3 m_3).mono ?_
                    rintro e u4 ⟨rfl, hb⟩
                    rw [if_pos HS.out, HS.out, HSB.out]
                    have w_4 := w_3.below hb
                    have m_4 := m_3.below hb
                    have x_4 := x_3.below hb
                    have y_4 := y_3.below hb
                    have z_4 := z_3.below hb
                    have B_4 := below_chain B_3 hb B_3.size
                    clear w_3 m_3 x_3 y_3 z_3 B_3 hb
                    clear w_4 m_4
                    go_wp2_with (first | (go_at_call 21; refine (line_reduced_is HR.out _ _ _ _ x_4).mono ?_; rintro e w' ⟨rfl, rfl⟩))
                    refine (ref_equal _ _ _ _ _ _ _ _ _ x_4 y_4).mono ?_
                    rintro e u5 ⟨rfl, hd⟩
                    rw [E1.out]
                    have x_5 := x_4.drawn hd
                    have y_5 := y_4.drawn hd
                    have z_5 := z_4.drawn hd
                    have B_5 := B_4.trans (hd.below _)
                    clear x_4 y_4 z_4 B_4 hd
                    go_wp2_with fail
                    refine (ref_equal _ _ _ _ _ _ _ _ _ x_5 z_5).mono ?_
                    rintro e u6 ⟨rfl, hd⟩
                    rw [E2.out]
                    have x_6 := x_5.drawn hd
                    have y_6 := y_5.drawn hd
                    have z_6 := z_5.drawn hd
                    have B_6 := B_5.trans (hd.below _)
                    clear x_5 y_5 z_5 B_5 hd
                    go_wp2_with fail
                    refine (law_known _).mono ?_
                    rintro e u7 ⟨rfl, hb⟩
                    have B_7 := below_chain B_6 hb B_6.size
                    clear B_6 hb
                    go_wp2_with fail
                    go_ret
                    exact ⟨rfl, B_7⟩
end Go.Proofs.YtnlggiimgihmcaaDoor
