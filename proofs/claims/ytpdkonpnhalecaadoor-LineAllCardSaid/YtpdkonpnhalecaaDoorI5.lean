/-
  The program's Words: what it returns gives the normal forms in order, each a slice of its own. No condition but ints.
-/
import Derived.Test.YtpdkonpnhalecaaDoorI4
namespace Go.Proofs.YtpdkonpnhalecaaDoor
open Go.RowKit Go.Shelf
attribute [local go_sem] Oper.semAt_some
theorem line_Words (K N : Int) (w : World) :
    Calls Tryd.prog 6 #[.int .i64 K, .int .i64 N] w fun e w' =>
      e = .returned (.func (.func 14) #[] #[.pointer (some ⟨w.heap.size, 0, none⟩), .pointer (some ⟨w.heap.size + 1, 0, none⟩)]) ∧
      w' = (w.alloc (.cells #[.int .i64 K] 3)).alloc (.cells #[.int .i64 N] 3) := by
  go_enter Tryd.func6, Tryd.ntmps6
  go_wp2_with fail
  go_ret
  exact ⟨rfl, rfl⟩
abbrev capw (bk bn : Nat) : Array Value := #[.pointer (some ⟨bk, 0, none⟩), .pointer (some ⟨bn, 0, none⟩)]
/-- A round's word with the answer named. -/
theorem yield_b {m l : Nat} {args : Array Value} {W : World} {A B : World → Prop} {C : World → World → Prop} (h : YieldAt Fence.wide m Tryd.prog l args W fun e W' => ((e = .returned (.bool true) ∧ A W') ∨ (e = .returned (.bool false) ∧ B W')) ∧ C W W') :
    YieldAt Fence.wide m Tryd.prog l args W fun e W' => ∃ b, e = .returned (.bool b) ∧ Hid (((b = true ∧ A W') ∨ (b = false ∧ B W')) ∧ C W W') :=
  h.mono fun e W' ⟨h1, h2⟩ => by
    rcases h1 with ⟨rfl, h1⟩ | ⟨rfl, h1⟩
    · exact ⟨true, rfl, Lib.hid ⟨.inl ⟨rfl, h1⟩, h2⟩⟩
    · exact ⟨false, rfl, Lib.hid ⟨.inr ⟨rfl, h1⟩, h2⟩⟩
set_option maxRecDepth 100000 in
set_option maxHeartbeats 12800000 in
theorem words_seq (K n : Nat) (hK : K ≤ 40) (hn : n ≤ 400) (he : n % 2 = 0) (bk bn : Nat) :
    Seq Tryd.prog 14 (capw bk bn) true (bgn K n []) (fun W => Boxed W bk 3 (.int .i64 (K : Int)) ∧ Boxed W bn 3 (.int .i64 (n : Int))) (fun U => ¬U bk ∧ ¬U bn) (fun _ => True) (fun _ => True) := by
  intro l U J Jx W ⟨hbk, hbn⟩ hU ⟨ak, an⟩ hJ hJx hR h0
  have kX : ∀ S, Kept S W (W.alloc (.cells #[.func (.yield l) #[] #[]] 35)) := fun S => Kept.alloc _ _ _
  have e1 := hbk.alloc (.cells #[.func (.yield l) #[] #[]] 35)
  have e2 := hbn.alloc (.cells #[.func (.yield l) #[] #[]] 35)
  have yX := Boxed.new W 35 (.func (.yield l) #[] #[])
  have hJ0 := hJ _ _ _ h0 (kX _)
  have HU := Lib.hid hU
  have HR := Lib.hid hR
  have f0 : (decide ((0 : Int) ≤ (K : Int)) && decide ((K : Int) ≤ 40)) = true := by simp; omega
  refine callsIn_of_wp_marks Tryd.func14 rfl trivial ?_ rfl
  clear hU hR h0
  simp only [Tryd.ntmps14, List.size_toArray, List.length_cons, List.length_nil, Nat.reduceAdd, Nat.reduceSub, Array.replicate_succ, Array.replicate_zero, List.push_toArray, List.append_toArray, List.nil_append, List.cons_append]
  refine wpIn_wide.2 ?_
  go_upto_region 1 with fail
  generalize W.alloc (.cells #[.func (.yield l) #[] #[]] 35) = X at kX e1 e2 yX hJ0 ⊢
  have c1 := e1.cell
  have c2 := e2.cell
  have i1 : ¬ (n : Int) < 0 := by omega
  have i2 : (n : Int) % 2 = 0 := by omega
  have i3 : ¬ (400 : Int) < (n : Int) := by omega
  go_wp2_with fail
  refine (fingers_any _ _).mono ?_
  rw [f0]
  rintro e w' ⟨rfl, hw⟩
  have hw2 := hw.symm
  subst hw2
  clear hw f0
  go_wp2_with fail
  refine (line_begun _ _ _ _ _ _).mono ?_
  rintro e w' ⟨rfl, hw⟩
  have hC : Capt w' K n none 0 0 (X.heap.size + 2) (X.heap.size + 1) X.heap.size [] := by
    rw [hw]
    have b1 := Boxed.new X 3 (.int .i64 (K : Int))
    have b2 := Boxed.new (X.alloc (.cells #[.int .i64 (K : Int)] 3)) 3 (.int .i64 (n : Int))
    have b3 := Boxed.new ((X.alloc (.cells #[.int .i64 (K : Int)] 3)).alloc (.cells #[.int .i64 (n : Int)] 3)) 28 (.slice none 0 0)
    simp only [World.size_alloc] at b2 b3
    exact ⟨b3, b2.alloc _, (b1.alloc _).alloc _, Own.nil _ _, fun k hk => by cases hk⟩
  have kw : ∀ S, Kept S X w' := fun S => by rw [hw]; exact ((Kept.alloc _ _ _).trans (Kept.alloc _ _ _)).trans (Kept.alloc _ _ _)
  have hsz : w'.heap.size = X.heap.size + 3 := by rw [hw]; simp
  have HC := Lib.hid hC
  have HSZ := Lib.hid hsz
  have hyz := yX.lt
  have hJ1 := hJ _ _ _ hJ0 (kw _)
  have hy1 : Boxed w' W.heap.size 35 (.func (.yield l) #[] #[]) := (kw (fun _ => True)).heap yX trivial
  have kW := fun S => (kX S).trans (kw S)
  clear hC hsz hw kw kX c1 c2 e1 e2
  go_wp2_with fail
  refine wpIn_wide (n := 0).1 ?_
  refine wp_range (hand := false) (T := bgn K n []) rfl (enters_of Tryd.func30 (by kernel_rfl) rfl) (begun_seq K n hK hn n [] none 0 0 (X.heap.size + 2) (X.heap.size + 1) X.heap.size (by omega) (fun _ hx => by cases hx)) (innU U W)
    (fun k hk => ?_) (fun W' hb => HC.out.below hb) ?_ (fun q w' => J q w' ∧ Boxed w' W.heap.size 35 (.func (.yield l) #[] #[])) (fun c q w' => c = .ret ∧ Jx q w') ?_ ?_ ⟨hJ1, hy1⟩ (fun _ _ _ _ h1 h2 => own_put h1 h2) ?_ ?_ ?_
  · have := HSZ.out
    rcases hk with hk | hk
    · have := HU.out k hk; omega
    · omega
  · have := HSZ.out
    have low : ∀ k, innU U W k → k < X.heap.size := fun k hk => by rcases hk with hk | hk; have := HU.out k hk; omega; omega
    refine ⟨?_, ?_, ?_, fun k hk => by cases hk⟩
    all_goals
      rintro (e | e | e)
      · have := low _ e; omega
      · omega
      · omega
  · exact fun q a b hs hk => ⟨hJ _ _ _ hs.1 (hk.mono fun k _ hu => .inl hu), hk.heap hs.2 (.inr rfl)⟩
  · exact fun c0 q a b hs hk => ⟨hs.1, hJx _ _ _ hs.2 (hk.mono fun k _ hu => .inl hu)⟩
  · intro l2 pre B nB cB LB W5 hl2 hBU hpre
    have HPT := Lib.hid hpre
    clear hpre
    gi_wp2
    refine ⟨trivial, fun W2 hz2 ⟨hj2, hy2⟩ hB2 => ?_⟩
    have c4 := hy2.cell
    have hmx : Tryd.prog.follows .mixedOrders = true := by kernel_rfl
    have hBi := hB2.ints
    gi_wp2
    gi_region_with_o (first
      | (refine ⟨trivial, rfl, ?_⟩
         gi_at_call 17
         refine (CallsIn.inRound l2 (callsIn_wide.2 (slices_clone B nB cB LB _ (by first | exact hBi.drewD | exact hBi)))).mono ?_
         rintro e w6 ⟨X6, c6, rfl, hX6, hb6⟩
         have hb7 : Below W2.heap.size W2 w6 := below_chain (Below.refl _ _).drew hb6 (Nat.le_refl _)
         have k7 : ∀ S, Kept S W2 w6 := fun S => Kept.of_below hb7 (fun k hk _ => hk)
         have hy7 : Boxed w6 W.heap.size 35 (.func (.yield l) #[] #[]) := (k7 (fun _ => True)).heap hy2 trivial
         have c7 := hy7.cell
         have hUX : ∀ k, blk X6 = some k → ¬U k := fun k hk hu => by
           have h1 : W2.heap.size ≤ k := (hX6.lt k hk).1
           have h2 := HU.out k hu
           have h3 := HSZ.out
           omega
         obtain ⟨fn, tmps, assign, body, hy, hRr⟩ := YieldAt.inRound (l' := l2) (yield_b (HR.out pre X6 nB c6 LB w6 (hJ _ _ _ hj2 (k7 _)) (hX6.mono (Nat.zero_le _)) hUX HPT.out)))
      | (refine ⟨rfl, hRr.mono ?_⟩
         rintro e w8 ⟨b, rfl, hh⟩))
    all_goals
      have hk8 := hh.out.2
      have hlow : ∀ k, k < W2.heap.size → blk X6 ≠ some k := fun k hk e => by
        have h1 : W2.heap.size ≤ k := (hX6.lt k e).1
        omega
      have hk9 : Kept (fun k => ¬innU U W k ∧ (false = true → blk B ≠ some k)) W2 w8 := (k7 _).next hk8 (fun k hlt h => ⟨fun hu => h.1 (.inl hu), fun _ => hlow k hlt⟩)
      have hy9 : Boxed w8 W.heap.size 35 (.func (.yield l) #[] #[]) := hk8.heap hy7 ⟨fun hu => Nat.lt_irrefl _ (HU.out _ hu), fun _ => hlow _ hy2.lt⟩
      have hh2 := Lib.hid hh.out.1
      clear hy hRr hh hk8 k7 hb7 hb6 hlow c7 c4
      cases b with
      | true =>
        have hJ9 : J (pre ++ [LB]) w8 := by
          rcases hh2.out with h | h
          · exact h.2
          · exact absurd h.1 (by decide)
        gi_wp2
        exact ⟨hk9, hJ9, hy9⟩
      | false =>
        have hJ9 : Jx (pre ++ [LB]) w8 := by
          rcases hh2.out with h | h
          · exact absurd h.1 (by decide)
          · exact h.2
        gi_wp2
        exact ⟨hk9, rfl, hJ9⟩
  · intro W4 hI4 hk4 hf4 hD4
    go_wp2_with fail
    refine leaves_marks [w'.heap.size] W4 (by simp) (by simpa using hD4) fun W5 hk5 => ⟨_, results_none rfl _ _ _, ⟨_, rfl⟩, .inl ?_, ?_, trivial⟩
    · refine hJ _ _ _ hI4.1 (hk5.mono fun k _ hu hD => ?_)
      have := HU.out k hu
      have := HSZ.out
      simp at hD
      omega
    · refine (((kW (fun k => ¬U k ∧ True)).next hk4 fun k hlt h => ⟨fun e => ?_, fun e => by cases e⟩).next hk5 fun k hlt h hD => ?_)
      · rcases e with e | e
        · exact h.1 e
        · omega
      · have := HSZ.out
        simp at hD
        omega
  · intro cd q0 W4 hq4 hI4 hk4 hf4 hD4
    obtain ⟨rfl, hx4⟩ := hI4
    refine wpIn_wide.2 ?_
    go_wp2_with fail
    refine leaves_marks [w'.heap.size] W4 (by simp) (by simpa using hD4) fun W5 hk5 => ⟨_, results_none rfl _ _ _, ⟨_, rfl⟩, .inr ⟨q0, hq4, ?_⟩, ?_, trivial⟩
    · refine hJx _ _ _ hx4 (hk5.mono fun k _ hu hD => ?_)
      have := HU.out k hu
      have := HSZ.out
      simp at hD
      omega
    · refine (((kW (fun k => ¬U k ∧ True)).next hk4 fun k hlt h => ⟨fun e => ?_, fun e => by cases e⟩).next hk5 fun k hlt h hD => ?_)
      · rcases e with e | e
        · exact h.1 e
        · omega
      · have := HSZ.out
        simp at hD
        omega
set_option maxRecDepth 100000 in
set_option maxHeartbeats 3200000 in
theorem words_none (K N : Int) (_hN : I64 N) (hbad : ¬(0 ≤ K ∧ K ≤ 40 ∧ 0 ≤ N ∧ N ≤ 400 ∧ N % 2 = 0)) (bk bn : Nat) :
    Seq Tryd.prog 14 (capw bk bn) true [] (fun W => Boxed W bk 3 (.int .i64 K) ∧ Boxed W bn 3 (.int .i64 N)) (fun U => ¬U bk ∧ ¬U bn) (fun _ => True) (fun _ => True) := by
  intro l U J Jx W ⟨hbk, hbn⟩ hU ⟨ak, an⟩ hJ hJx hR h0
  have kX : ∀ S, Kept S W (W.alloc (.cells #[.func (.yield l) #[] #[]] 35)) := fun S => Kept.alloc _ _ _
  have e1 := hbk.alloc (.cells #[.func (.yield l) #[] #[]] 35)
  have e2 := hbn.alloc (.cells #[.func (.yield l) #[] #[]] 35)
  have hJ0 := hJ _ _ _ h0 (kX _)
  refine callsIn_of_wp_marks Tryd.func14 rfl trivial ?_ rfl
  clear hU hR h0
  simp only [Tryd.ntmps14, List.size_toArray, List.length_cons, List.length_nil, Nat.reduceAdd, Nat.reduceSub, Array.replicate_succ, Array.replicate_zero, List.push_toArray, List.append_toArray, List.nil_append, List.cons_append]
  refine wpIn_wide.2 ?_
  go_upto_region 1 with fail
  generalize W.alloc (.cells #[.func (.yield l) #[] #[]] 35) = X at kX e1 e2 hJ0 ⊢
  have c1 := e1.cell
  have c2 := e2.cell
  by_cases hk : 0 ≤ K ∧ K ≤ 40
  · have f0 : (decide ((0 : Int) ≤ K) && decide (K ≤ 40)) = true := by simp; omega
    by_cases h1 : N < 0
    · go_wp2_with fail
      refine (fingers_any _ _).mono ?_
      rw [f0]
      rintro e w' ⟨rfl, hw⟩
      have hw2 := hw.symm
      subst hw2
      clear hw f0 hk hbad
      go_wp2_with fail
      exact ⟨_, results_none rfl _ _ _, ⟨_, rfl⟩, .inl hJ0, kX _, trivial⟩
    · have h2 : 0 ≤ N := by omega
      by_cases h3 : N % 2 = 1
      · go_wp2_with fail
        refine (fingers_any _ _).mono ?_
        rw [f0]
        rintro e w' ⟨rfl, hw⟩
        have hw2 := hw.symm
        subst hw2
        clear hw f0 hk hbad
        go_wp2_with fail
        exact ⟨_, results_none rfl _ _ _, ⟨_, rfl⟩, .inl hJ0, kX _, trivial⟩
      · have h4 : N % 2 = 0 := by omega
        have h5 : 400 < N := by omega
        go_wp2_with fail
        refine (fingers_any _ _).mono ?_
        rw [f0]
        rintro e w' ⟨rfl, hw⟩
        have hw2 := hw.symm
        subst hw2
        clear hw f0 hk hbad
        go_wp2_with fail
        exact ⟨_, results_none rfl _ _ _, ⟨_, rfl⟩, .inl hJ0, kX _, trivial⟩
  · have f0 : (decide ((0 : Int) ≤ K) && decide (K ≤ 40)) = false := by simp; omega
    go_wp2_with fail
    refine (fingers_any _ _).mono ?_
    rw [f0]
    rintro e w' ⟨rfl, hw⟩
    have hw2 := hw.symm
    subst hw2
    clear hw f0 hk hbad
    go_wp2_with fail
    exact ⟨_, results_none rfl _ _ _, ⟨_, rfl⟩, .inl hJ0, kX _, trivial⟩
end Go.Proofs.YtpdkonpnhalecaaDoor
