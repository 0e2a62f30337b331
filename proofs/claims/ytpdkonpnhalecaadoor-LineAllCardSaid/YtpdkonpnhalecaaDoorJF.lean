/-
  Walk: LineAll, the rest of its cases. Condition: ints.
  Walk: LineAll, the case of a few fingers and letters: both loops. Condition: ints.
-/
import Derived.Test.YtpdkonpnhalecaaDoorI6
namespace Go.Proofs.YtpdkonpnhalecaaDoor
section
open Go.RowKit Go.Shelf
attribute [local go_sem] Oper.semAt_some
/-- What the law knows between the rounds of its loops. -/
structure Lst (w : World) (b8 : Nat) (stop : Int) (lo hi : Nat) (B : Option Addr) (q cq : Nat) (Ws : List (List Int)) (Ds : List Nat) (W : World) : Prop where
  below : Below w.heap.size w W
  h5 : Boxed W w.heap.size 3 (.int .i64 stop)
  h6 : Boxed W (w.heap.size + 1) 4 (.bool false)
  h8 : Boxed W b8 26 (.slice B q cq)
  want : Want W lo hi B q Ws
  marks : ∀ D ∈ Ds, W.heap[D]? = some (.deferred (some []))
  hlo : w.heap.size + 4 ≤ lo
  hhi : hi ≤ b8
  hDs : ∀ D ∈ Ds, b8 < D
def offKN (w : World) (z : Nat) : Nat → Prop := fun k => k < z ∧ k ≠ w.heap.size + 2 ∧ k ≠ w.heap.size + 3
section
variable {w W W' : World} {b8 : Nat} {stop : Int} {lo hi : Nat} {B : Option Addr} {q cq : Nat} {Ws : List (List Int)} {Ds : List Nat}
theorem Lst.kept {S : Nat → Prop} (h : Lst w b8 stop lo hi B q cq Ws Ds W) (hk : Kept S W W') (h0 : ∀ k, k < w.heap.size + 2 → S k) (h8 : ∀ k, lo ≤ k → k < hi → S k) (hb : S b8) (hd : ∀ D ∈ Ds, S D) : Lst w b8 stop lo hi B q cq Ws Ds W' :=
  ⟨h.below.trans (hk.below h.below.size fun k hk => h0 k (by omega)), hk.heap h.h5 (h0 _ (by omega)), hk.heap h.h6 (h0 _ (by omega)), hk.heap h.h8 hb, h.want.kept hk h8, fun D hD => hk.heap (h.marks D hD) (hd D hD), h.hlo, h.hhi, h.hDs⟩
theorem Lst.stable {z : Nat} (h : Lst w b8 stop lo hi B q cq Ws Ds W) (hz : b8 < z) (hD : ∀ D ∈ Ds, D < z) (h48 : w.heap.size + 4 ≤ b8) (hk : Kept (offKN w z) W W') : Lst w b8 stop lo hi B q cq Ws Ds W' := by
  have := h.hlo
  have := h.hhi
  refine h.kept hk (fun k hk => ⟨by omega, by omega, by omega⟩) (fun k h1 h2 => ⟨by omega, by omega, by omega⟩) ⟨by omega, by omega, by omega⟩ (fun D hm => ?_)
  have h1 := hD D hm
  have h2 := h.hDs D hm
  exact ⟨by omega, by omega, by omega⟩
/-- One more box is written. -/
theorem Lst.put (h : Lst w b8 stop lo hi B q cq Ws Ds W) {b : Nat} (hb : b8 < b) (h48 : w.heap.size + 4 ≤ b8) (hn : b ∉ Ds) (v : Value) : Lst w b8 stop lo hi B q cq Ws Ds (W.setCell ⟨b, 0, none⟩ v) := by
  have := h.hhi
  refine h.kept (S := fun k => k ≠ b) (Kept.setCell _ _ _ fun k hk => hk) (fun k hk => by omega) (fun k h1 h2 => by omega) (by omega) (fun D hm e => hn (e ▸ hm))
/-- The world goes on in new blocks. -/
theorem Lst.next (h : Lst w b8 stop lo hi B q cq Ws Ds W) (hb : Below W.heap.size W W') : Lst w b8 stop lo hi B q cq Ws Ds W' := by
  have h8 := h.h8.lt
  have := h.hhi
  have := h.hlo
  have h6 := h.h6.lt
  refine h.kept (S := fun k => k < W.heap.size) (Kept.of_below hb fun k hk _ => hk) (fun k hk => by omega) (fun k h1 h2 => by omega) h8 (fun D hm => (Array.getElem?_eq_some_iff.1 (h.marks D hm)).1)
theorem prefix_get {T pre : List (List Int)} {L : List Int} (h : (pre ++ [L]) <+: T) : T[pre.length]? = some L ∧ pre.length < T.length := by
  obtain ⟨r, rfl⟩ := h
  constructor
  · simp
  · simp
/-- The next wanted word. -/
theorem Lst.at_ (h : Lst w b8 stop lo hi B q cq Ws Ds W) {pre : List (List Int)} {L : List Int} (hp : (pre ++ [L]) <+: Ws) :
    ∃ ad A m c, B = some ad ∧ W.cell? (ad.add pre.length) = some (.slice A m c) ∧ Ints W A m L ∧ pre.length < q := by
  obtain ⟨h1, h2⟩ := prefix_get hp
  obtain ⟨g, o, A, m, c, e1, _, _, e4, e5, _⟩ := h.want.each _ _ h1
  exact ⟨_, A, m, c, e1, by rw [Addr.add_lit]; exact e4, e5, by rw [h.want.len] at h2; exact h2⟩
end
/-- The law of the statement where what follows meets again: the rounds end, or one leaves by the loop's own block. -/
theorem wp_rangeB {P : Program} {g : Operand} {p : Tmp} {assign body : Code} {K : Act → World → Prop} {Q' : Exit → Act → World → Prop} {id : Nat} {a : Act} {w : World} {gf : Nat} {lb : Array Value}
    (hg : a.eval g = .func (.func gf) #[] lb) (eg : ∀ args w, (callFunc gf args).run P w = .ok (.enter gf args) w)
    {T : List (List Int)} {ok : World → Prop} {away : (Nat → Prop) → Prop} (hseq : Seq P gf lb true T ok away (fun _ => True) (fun _ => True))
    (U : Nat → Prop) (hU : ∀ k, U k → k < w.heap.size) (hok : ∀ W, Below w.heap.size w W → ok W) (haway : away (fun k => U k ∨ k = w.heap.size ∨ k = w.heap.size + 1))
    (I J : List (List Int) → World → Prop) (hI : Stable U I) (hJ : Stable U J) (h0 : I [] w)
    (hround : ∀ (l : Nat) (pre : List (List Int)) (A : Option Addr) (n c : Nat) (L : List Int) (W : World), w.heap.size ≤ l → (∀ k, blk A = some k → ¬U k) → (pre ++ [L]) <+: T →
      assign.wpIn (Fence.wide.inRound l) 0 P (Exit.then (fun a₁ W1 => W1 = W ∧ ∀ W2, w.heap.size ≤ W2.heap.size → I pre W2 → Own W2 0 A n c L →
        body.wpIn (Fence.wide.inRound l) 0 P (bPost U true (blk A) I (fun c xs W => c = .exit id ∧ J xs W) (pre ++ [L]) W2) a₁ W2) (fun _ _ _ => False)) { tmps := a.tmps.setIfInBounds p (.slice A n c), defers := [] } W)
    (hafter : ∀ q W, ((q = T ∧ I q W) ∨ (q <+: T ∧ J q W)) → Kept (fun k => ¬U k) w W → W.heap[w.heap.size]? = some (.deferred (some [])) → K { a with defers := { target := .collected w.heap.size, args := #[] } :: a.defers } W) :
    (Code.rangeFunc g #[p] assign body).wpIn Fence.wide 0 P (Exit.inBlock id (Exit.then K Q')) a w := by
  refine wp_range hg eg hseq U hU hok haway I (fun c xs W => c = .exit id ∧ J xs W) hI (fun c s W W' hs hk => ⟨hs.1, hJ _ _ _ hs.2 hk⟩) h0 (fun _ _ _ _ h _ => h) hround ?_ ?_
  · intro W h hk _ hd
    exact hafter T W (.inl ⟨rfl, h⟩) (hk.mono fun k _ hu => ⟨hu, trivial⟩) hd
  · rintro c q W hq ⟨rfl, h⟩ hk _ hd
    have := hafter q W (.inr ⟨hq, h⟩) (hk.mono fun k _ hu => ⟨hu, trivial⟩) hd
    refine wpIn_exit ?_
    simpa [Exit.inBlock, Exit.then] using this
set_option maxRecDepth 100000 in
set_option maxHeartbeats 12800000 in
theorem lineAll_big (K n : Nat) (stop : Int) (w : World) (hK : K ≤ 40) (hn : n ≤ 400) (he : n % 2 = 0) (hbig : 4 < K ∨ 6 < n) :
    Calls Tryd.prog 3 #[.int .i64 (K : Int), .int .i64 (n : Int), .int .i64 stop] w fun e w' => e = .returned (.bool true) ∧ Below w.heap.size w w' := by
  refine callsIn_wide (n := 0).1 ?_
  refine callsIn_of_wp_marks Tryd.func3 rfl trivial ?_ rfl
  simp only [Tryd.ntmps3, List.size_toArray, List.length_cons, List.length_nil, Nat.reduceAdd, Nat.reduceSub, Array.replicate_succ, Array.replicate_zero, List.push_toArray, List.append_toArray, List.nil_append, List.cons_append]
  refine wpIn_wide.2 ?_
  go_wp2_with fail
  refine (line_Words K n _).mono ?_
  rintro e w1 ⟨rfl, hw1⟩
  have hb1 : Below w.heap.size w w1 := by
    rw [hw1]
    exact ((((Below.refl _ _).alloc (Nat.le_refl _) _).alloc (by simp) _).alloc (by simp; omega) _).alloc (by simp; omega) _
  have hr1 : Boxed w1 (w.heap.size + 1) 4 (.bool false) := by
    rw [hw1]
    have b := Boxed.new (w.alloc (.cells #[.int .i64 stop] 3)) 4 (.bool false)
    simp only [World.size_alloc] at b
    exact (b.alloc _).alloc _
  clear hw1
  have heq := fun (w : World) (cap : Array Value) => run_eql_func_nil w 14 cap
  have i1 : ¬(K : Int) < 0 := by omega
  have i2 : ¬40 < (K : Int) := by omega
  have i3 : ¬(n : Int) < 0 := by omega
  have i4 : (n : Int) % 2 = 0 := by omega
  have i5 : ¬400 < (n : Int) := by omega
  clear hK hn he
  have hbig2 : 4 < (K : Int) ∨ (¬4 < (K : Int) ∧ 6 < (n : Int)) := by omega
  clear hbig
  rcases hbig2 with p1 | ⟨p1, p2⟩
  all_goals
    go_wp2_with fail
    clear heq
    refine (law_known _).mono ?_
    rintro e w5 ⟨rfl, hb5⟩
    have hb6 := below_chain hb1 hb5 hb1.size
    have hr5 : Boxed w5 (w.heap.size + 1) 4 (.bool false) := (hb5.block _ hr1.lt).trans hr1
    have c5 := hr5.cell
    have z5 := hr5.frozen
    clear hb1 hb5 hr1
    go_wp2_with fail
    exact law_end (Ds := []) rfl (hr5.set _) (hb6.setCell (p := ⟨w.heap.size + 1, 0, none⟩) (by simp) _) (by simp) (fun D hD => by cases hD)
end

section
open Go.RowKit Go.Shelf
attribute [local go_sem] Oper.semAt_some
set_option maxRecDepth 100000 in
set_option maxHeartbeats 12800000 in
theorem lineAll_small (K n : Nat) (stop : Int) (w : World) (hK : K ≤ 4) (hn : n ≤ 6) (he : n % 2 = 0) :
    Calls Tryd.prog 3 #[.int .i64 (K : Int), .int .i64 (n : Int), .int .i64 stop] w fun e w' => e = .returned (.bool true) ∧ Below w.heap.size w w' := by
  refine callsIn_wide (n := 0).1 ?_
  refine callsIn_of_wp_marks Tryd.func3 rfl trivial ?_ rfl
  simp only [Tryd.ntmps3, List.size_toArray, List.length_cons, List.length_nil, Nat.reduceAdd, Nat.reduceSub, Array.replicate_succ, Array.replicate_zero, List.push_toArray, List.append_toArray, List.nil_append, List.cons_append]
  refine wpIn_wide.2 ?_
  go_wp2_with fail
  refine (line_Words K n _).mono ?_
  rintro e w1 ⟨rfl, hw1⟩
  have hb1 : Below w.heap.size w w1 := by
    rw [hw1]
    exact ((((Below.refl _ _).alloc (Nat.le_refl _) _).alloc (by simp) _).alloc (by simp; omega) _).alloc (by simp; omega) _
  have hk1 : Boxed w1 (w.heap.size + 2) 3 (.int .i64 (K : Int)) := by
    rw [hw1]
    have b := Boxed.new ((w.alloc (.cells #[.int .i64 stop] 3)).alloc (.cells #[.bool false] 4)) 3 (.int .i64 (K : Int))
    simp only [World.size_alloc] at b
    exact b.alloc _
  have hn1 : Boxed w1 (w.heap.size + 3) 3 (.int .i64 (n : Int)) := by
    rw [hw1]
    have b := Boxed.new (((w.alloc (.cells #[.int .i64 stop] 3)).alloc (.cells #[.bool false] 4)).alloc (.cells #[.int .i64 (K : Int)] 3)) 3 (.int .i64 (n : Int))
    simp only [World.size_alloc] at b
    exact b
  have hr1 : Boxed w1 (w.heap.size + 1) 4 (.bool false) := by
    rw [hw1]
    have b := Boxed.new (w.alloc (.cells #[.int .i64 stop] 3)) 4 (.bool false)
    simp only [World.size_alloc] at b
    exact (b.alloc _).alloc _
  have hs1 : Boxed w1 w.heap.size 3 (.int .i64 stop) := by
    rw [hw1]
    exact (((Boxed.new w 3 (.int .i64 stop)).alloc _).alloc _).alloc _
  have hz1 : w1.heap.size = w.heap.size + 4 := by rw [hw1]; simp
  have HZ := Lib.hid hz1
  clear hw1 hz1
  have heq := fun (w : World) (cap : Array Value) => run_eql_func_nil w 14 cap
  have i1 : ¬(K : Int) < 0 := by omega
  have i2 : ¬40 < (K : Int) := by omega
  have i3 : ¬(n : Int) < 0 := by omega
  have i4 : (n : Int) % 2 = 0 := by omega
  have i5 : ¬400 < (n : Int) := by omega
  have i6 : ¬4 < (K : Int) := by omega
  have i7 : ¬6 < (n : Int) := by omega
  have hN : (grown K n []).length ≤ 100000 := grown_bound hK hn
  have hSeq := words_seq K n (by omega) (by omega) he (w.heap.size + 2) (w.heap.size + 3)
  have hT : bgn K n [] = grown K n [] := (allW_words (by omega) (by omega) he).symm
  rw [hT] at hSeq
  have HSEQ := Lib.hid hSeq
  have HW := Lib.hid (ref_Words K n hK hn he w1)
  clear hT hSeq hK hn he
  go_wp2_with fail
  refine HW.out.mono ?_
  rintro e w2 ⟨B, cq, vs, rfl, hW, hb2, _, _⟩
  have hl2 := hb2.size
  have hq : (grown K n []).length ≤ 100000 := hN
  have bx : ∀ {k : Nat} {t : TypeId} {v : Value}, Boxed w1 k t v → Boxed w2 k t v := fun h => (hb2.block _ h.lt).trans h
  have st0 : Lst w w2.heap.size stop w1.heap.size w2.heap.size B (grown K n []).length cq (grown K n []) [] (((w2.alloc (.cells #[.slice B (grown K n []).length cq] 26)).alloc (.cells #[.int .i64 0] 3))) :=
    ⟨((below_chain hb1 hb2 hb1.size).alloc (by have := hb1.size; omega) _).alloc (by have := hb1.size; simp; omega) _, ((bx hs1).alloc _).alloc _, ((bx hr1).alloc _).alloc _,
      (Boxed.new w2 _ _).alloc _, (Want.of_wl hW).kept (S := fun _ => True) ((Kept.alloc _ _ _).trans (Kept.alloc _ _ _)) (fun _ _ _ => trivial), (fun D hD => by cases hD), (by rw [HZ.out]; exact Nat.le_refl _), Nat.le_refl _, (fun D hD => by cases hD)⟩
  have kX : Boxed (((w2.alloc (.cells #[.slice B (grown K n []).length cq] 26)).alloc (.cells #[.int .i64 0] 3))) (w.heap.size + 2) 3 (.int .i64 (K : Int)) := ((bx hk1).alloc _).alloc _
  have nX : Boxed (((w2.alloc (.cells #[.slice B (grown K n []).length cq] 26)).alloc (.cells #[.int .i64 0] 3))) (w.heap.size + 3) 3 (.int .i64 (n : Int)) := ((bx hn1).alloc _).alloc _
  clear HW heq bx
  clear hN
  have hWant := Want.of_wl hW
  generalize grown K n [] = T at hW HSEQ hWant hq st0 kX nX ⊢
  have hqT := hWant.len
  generalize T.length = q at hW hWant hq st0 hqT kX nX ⊢
  clear hW
  go_wp2_with fail
  clear i1 i2 i3 i4 i5 i6 i7
  have b9 := Boxed.new (w2.alloc (.cells #[.slice B q cq] 26)) 3 (.int .i64 0)
  have hst := st0
  have hqL := Lib.hid hqT
  clear st0 hqT hk1 hn1 hr1 hs1
  have hX : ((w2.alloc (.cells #[.slice B q cq] 26)).alloc (.cells #[.int .i64 0] 3)).heap.size = w2.heap.size + 2 := by simp
  simp only [World.size_alloc] at b9
  generalize ((w2.alloc (.cells #[.slice B q cq] 26)).alloc (.cells #[.int .i64 0] 3)) = X at b9 hst hX kX nX ⊢
  have HX := Lib.hid hX
  clear hX
  refine wpIn_wide (n := 0).1 ?_
  refine wp_rangeB rfl (enters_of Tryd.func14 (by kernel_rfl) rfl) HSEQ.out (offKN w X.heap.size) (fun k hk => hk.1) (fun W hb => ?_) ?_
    (fun xs W => Lst w w2.heap.size stop w1.heap.size w2.heap.size B q cq T [] W ∧ Boxed W (w2.heap.size + 1) 3 (.int .i64 (xs.length : Int)))
    (fun xs W => Lst w w2.heap.size stop w1.heap.size w2.heap.size B q cq T [] W ∧ Boxed W (w2.heap.size + 1) 3 (.int .i64 (xs.length : Int)) ∧ (xs.length : Int) = stop) ?_ ?_ ⟨hst, b9⟩ ?_ ?_
  · exact ⟨(hb.block _ kX.lt).trans kX, (hb.block _ nX.lt).trans nX⟩
  · have := HX.out
    have := HZ.out
    constructor
    · rintro (e | e | e)
      · exact e.2.1 rfl
      · omega
      · omega
    · rintro (e | e | e)
      · exact e.2.2 rfl
      · omega
      · omega
  · have := HX.out
    have := HZ.out
    exact fun xs a b hs hk => ⟨hs.1.stable (by omega) (fun D hD => by cases hD) (by omega) hk, hk.heap hs.2 ⟨by omega, by omega, by omega⟩⟩
  · have := HX.out
    have := HZ.out
    exact fun xs a b hs hk => ⟨hs.1.stable (by omega) (fun D hD => by cases hD) (by omega) hk, hk.heap hs.2.1 ⟨by omega, by omega, by omega⟩, hs.2.2⟩
  · intro l pre A nA cA L W hl hAU hpre
    have HPRE := Lib.hid hpre
    clear hpre
    gi_wp2
    refine ⟨trivial, fun W2 hz2 ⟨hs2, h9⟩ hB2 => ?_⟩
    obtain ⟨ad, A', m', c', hBad, hcell, hInts, hlt⟩ := hs2.at_ HPRE.out
    subst hBad
    generalize hpl : pre.length = p at hcell h9 hlt
    have hx := HX.out
    have c5 := hs2.h5.cell
    have c8 := hs2.h8.cell
    have c9 := h9.cell
    have z9 := h9.frozen
    have hBi := hB2.ints
    have n0 : ¬(q : Int) ≤ (p : Int) := by omega
    have n1 : decide ((p : Int) ≥ (q : Int)) = false := by simp; omega
    have heqc := ref_equal A A' nA m' cA c' L L W2 hBi hInts
    rw [beq_self_eq_true L] at heqc
    have HEQ := Lib.hid heqc
    clear heqc
    gi_wp2
    refine ⟨trivial, rfl, (CallsIn.inRound l (callsIn_wide.2 HEQ.out)).mono ?_⟩
    rintro e w6 ⟨rfl, hd⟩
    have hb6 : Below W2.heap.size W2 w6 := hd.below _
    have hs6 := hs2.next hb6
    have h96 : Boxed w6 (w2.heap.size + 1) 3 (.int .i64 (p : Int)) := (hb6.block _ h9.lt).trans h9
    have d9 := h96.cell
    have y9 := h96.frozen
    have h97 : Boxed (w6.setCell ⟨w2.heap.size + 1, 0, none⟩ (.int .i64 ((p : Int) + 1))) (w2.heap.size + 1) 3 (.int .i64 ((p : Int) + 1)) := h96.set _
    have hs7 := hs6.put (b := w2.heap.size + 1) (by omega) (by have := HZ.out; omega) (by simp) (.int .i64 ((p : Int) + 1))
    have g5 := hs7.h5.cell
    have g9 := h97.cell
    have hk7 : Kept (fun k => ¬offKN w X.heap.size k ∧ (true = true → blk A ≠ some k)) W2 (w6.setCell ⟨w2.heap.size + 1, 0, none⟩ (.int .i64 ((p : Int) + 1))) := by
      refine (Kept.of_below (S := fun k => ¬offKN w X.heap.size k) hb6 (fun k hk _ => hk)).next (Kept.setCell (S := fun k => k ≠ w2.heap.size + 1) _ _ _ fun k hk => hk) (fun k _ hu e => ?_) |>.mono (fun k _ h => h.1)
      have := HZ.out
      exact hu ⟨by omega, by omega, by omega⟩
    have HK7 := Lib.hid hk7
    clear c5 c8 c9 z9 HEQ hcell hInts hBi hk7
    rcases Bool.eq_false_or_eq_true (((p : Int) + 1) == stop) with hst2 | hst2
    · obtain rfl : (p : Int) + 1 = stop := by simpa using hst2
      clear hst2
      gi_wp2
      refine ⟨HK7.out.mono fun k _ h => ⟨h.1, fun _ => h.2 rfl⟩, rfl, hs7, ?_, ?_⟩
      · rw [List.length_append, hpl]; exact h97
      · rw [List.length_append, hpl]; rfl
    · gi_wp2
      refine ⟨HK7.out.mono fun k _ h => ⟨h.1, fun _ => h.2 rfl⟩, hs7, ?_⟩
      rw [List.length_append, hpl]; exact h97
  · intro p0 W4 hI4 hk4 hD4
    have hx := HX.out
    have hz := HZ.out
    have hs4 : Lst w w2.heap.size stop w1.heap.size w2.heap.size B q cq T [X.heap.size] W4 ∧ Boxed W4 (w2.heap.size + 1) 3 (.int .i64 (p0.length : Int)) ∧ Hid (p0.length = q ∨ (p0.length : Int) = stop) := by
      have mk : ∀ {W : World}, W.heap[X.heap.size]? = some (.deferred (some [])) → Lst w w2.heap.size stop w1.heap.size w2.heap.size B q cq T [] W → Lst w w2.heap.size stop w1.heap.size w2.heap.size B q cq T [X.heap.size] W := fun hD h =>
        ⟨h.below, h.h5, h.h6, h.h8, h.want, (fun D hm => by rw [List.mem_singleton.1 hm]; exact hD), h.hlo, h.hhi, (fun D hm => by rw [List.mem_singleton.1 hm]; omega)⟩
      rcases hI4 with ⟨e, h1, h2⟩ | ⟨_, h1, h2, h3⟩
      · exact ⟨mk hD4 h1, h2, Lib.hid (.inl (by rw [e]; exact h1.want.len))⟩
      · exact ⟨mk hD4 h1, h2, Lib.hid (.inr h3)⟩
    obtain ⟨hs4, h94, HEND⟩ := hs4
    have kY : Boxed W4 (w.heap.size + 2) 3 (.int .i64 (K : Int)) := hk4.heap kX fun e => e.2.1 rfl
    have nY : Boxed W4 (w.heap.size + 3) 3 (.int .i64 (n : Int)) := hk4.heap nX fun e => e.2.2 rfl
    generalize hpl : p0.length = p at h94 HEND
    have hX4 : X.heap.size < W4.heap.size := (Array.getElem?_eq_some_iff.1 hD4).1
    clear hI4 hk4 hD4 kX nX hst b9 hx hz
    go_wp2_with fail
    have b11 := Boxed.new W4 3 (.int .i64 0)
    have hst := hs4.next ((Below.refl W4.heap.size W4).alloc (Nat.le_refl _) (.cells #[.int .i64 0] 3))
    have k2 := kY.alloc (.cells #[.int .i64 0] 3)
    have n2 := nY.alloc (.cells #[.int .i64 0] 3)
    have j2 := h94.alloc (.cells #[.int .i64 0] 3)
    have hY : (W4.alloc (.cells #[.int .i64 0] 3)).heap.size = W4.heap.size + 1 := by simp
    generalize W4.alloc (.cells #[.int .i64 0] 3) = Y at b11 hst k2 n2 j2 hY ⊢
    have HY := Lib.hid hY
    clear hY hs4 h94 kY nY
    refine wpIn_wide (n := 0).1 ?_
    refine wp_rangeB rfl (enters_of Tryd.func14 (by kernel_rfl) rfl) HSEQ.out (offKN w Y.heap.size) (fun k hk => hk.1) (fun W hb => ?_) ?_
      (fun xs W => Lst w w2.heap.size stop w1.heap.size w2.heap.size B q cq T [X.heap.size] W ∧ Boxed W (w2.heap.size + 1) 3 (.int .i64 (p : Int)) ∧ Boxed W W4.heap.size 3 (.int .i64 (xs.length : Int)))
      (fun _ _ => False) ?_ ?_ ⟨hst, j2, b11⟩ ?_ ?_
    · exact ⟨(hb.block _ k2.lt).trans k2, (hb.block _ n2.lt).trans n2⟩
    · have := HX.out
      have := HY.out
      have := HZ.out
      constructor
      · rintro (e | e | e)
        · exact e.2.1 rfl
        · omega
        · omega
      · rintro (e | e | e)
        · exact e.2.2 rfl
        · omega
        · omega
    · have := HX.out
      have := HY.out
      have := HZ.out
      exact fun xs a b hs hk => ⟨hs.1.stable (by omega) (fun D hD => by rw [List.mem_singleton.1 hD]; omega) (by omega) hk, hk.heap hs.2.1 ⟨by omega, by omega, by omega⟩, hk.heap hs.2.2 ⟨by omega, by omega, by omega⟩⟩
    · exact fun xs a b hs hk => hs
    · intro l pre A nA cA L W hl hAU hpre
      have HPRE := Lib.hid hpre
      clear hpre
      gi_wp2
      refine ⟨trivial, fun W2 hz2 ⟨hs2, h9, h11⟩ hB2 => ?_⟩
      obtain ⟨ad, A', m', c', hBad, hcell, hInts, hlt⟩ := hs2.at_ HPRE.out
      subst hBad
      generalize hpl2 : pre.length = p2 at hcell h11 hlt
      have hx := HX.out
      have hy := HY.out
      have c8 := hs2.h8.cell
      have c11 := h11.cell
      have hBi := hB2.ints
      have heqc := ref_equal A A' nA m' cA c' L L W2 hBi hInts
      rw [beq_self_eq_true L] at heqc
      have HEQ := Lib.hid heqc
      clear heqc
      have n0 : ¬(q : Int) ≤ (p2 : Int) := by omega
      have n1 : decide ((p2 : Int) ≥ (q : Int)) = false := by simp; omega
      gi_wp2
      refine ⟨trivial, rfl, (CallsIn.inRound l (callsIn_wide.2 HEQ.out)).mono ?_⟩
      rintro e w6 ⟨rfl, hd⟩
      have hb6 : Below W2.heap.size W2 w6 := hd.below _
      have hs6 := hs2.next hb6
      have h96 : Boxed w6 (w2.heap.size + 1) 3 (.int .i64 (p : Int)) := (hb6.block _ h9.lt).trans h9
      have h116 : Boxed w6 W4.heap.size 3 (.int .i64 (p2 : Int)) := (hb6.block _ h11.lt).trans h11
      have hB6 := hB2.below hb6
      have kb6 : Kept (fun _ => True) W2 w6 := Kept.of_below hb6 (fun k hk _ => hk)
      have hLn := hB6.len
      have hAU2 : ∀ k, blk A = some k → ¬offKN w Y.heap.size k := hAU
      clear c8 c11 HEQ hcell hInts hBi hs2 h9 h11 hB2
      gi_wp2
      gi_loopw [13] (fun v13 wr => ∃ (i : Nat) (M : List Int), i ≤ nA ∧ v13 = .int .i64 (i : Int) ∧ Own wr 0 A nA cA M ∧ Kept (fun k => blk A ≠ some k) w6 wr) (fun v13 _ => nA - (intOf v13).toNat)
      case atStart => exact ⟨0, L, Nat.zero_le _, rfl, hB6, Kept.refl _ _⟩
      case round =>
        obtain ⟨i, M, hi, rfl, hM, hkr⟩ := hrel
        clear hB6
        by_cases hin : i < nA
        · obtain ⟨z, hz⟩ : ∃ z, M[i]? = some z := ⟨M[i]'(by rw [hM.len]; exact hin), List.getElem?_eq_getElem _⟩
          obtain ⟨g, rfl, _, hgl⟩ := hM.form (by omega)
          have hcell := hM.cell hz
          have hfree := hM.free i
          have hset := hM.stored i (x := -1) ⟨by omega, by omega⟩
          have hkr2 : Kept (fun k => blk (some ⟨g, 0, none⟩) ≠ some k) w6 (wr.setCell ⟨g, i, none⟩ (.int .i64 (-1))) := hkr.trans (Kept.setCell _ _ _ fun k hk e => hk (by rw [e]; rfl))
          have i0 : (i : Int) < (nA : Int) := by omega
          have i1 : decide ((i : Int) < (nA : Int)) = true := by simp; omega
          have hle := hM.le
          clear hM hkr hz hx hy
          gi_wp2
          go_roundw
          case rel => exact ⟨i + 1, _, hin, by simp, hset, hkr2⟩
          case measure => simp [intOf]; omega
        · have i0 : ¬(i : Int) < (nA : Int) := by omega
          have i1 : decide ((i : Int) < (nA : Int)) = false := by simp; omega
          have hzz := HZ.out
          have offb : ∀ k, offKN w Y.heap.size k → blk A ≠ some k := fun k hk e => hAU2 k e hk
          have o11 : offKN w Y.heap.size W4.heap.size := ⟨by omega, by omega, by omega⟩
          have h11r : Boxed wr W4.heap.size 3 (.int .i64 (p2 : Int)) := hkr.heap h116 (offb _ o11)
          have h9r : Boxed wr (w2.heap.size + 1) 3 (.int .i64 (p : Int)) := hkr.heap h96 (offb _ ⟨by omega, by omega, by omega⟩)
          have hsr := hs6.stable (z := Y.heap.size) (by omega) (fun D hD => by rw [List.mem_singleton.1 hD]; omega) (by omega) (hkr.mono fun k _ hk => offb k hk)
          have hs8 := hsr.put (b := W4.heap.size) (by omega) (by omega) (by simp; omega) (.int .i64 ((p2 : Int) + 1))
          have hk8 : Kept (fun k => ¬offKN w Y.heap.size k ∧ (True → blk A ≠ some k)) W2 (wr.setCell ⟨W4.heap.size, 0, none⟩ (.int .i64 ((p2 : Int) + 1))) := by
            refine ((kb6.mono (S' := fun k => ¬offKN w Y.heap.size k ∧ (True → blk A ≠ some k)) fun k _ _ => trivial).next hkr fun k _ hk => hk.2 trivial).next (Kept.setCell (S := fun k => k ≠ W4.heap.size) _ _ _ fun k hk => hk) (fun k _ hu e => ?_)
            exact hu.1 (e ▸ o11)
          have h118 : Boxed (wr.setCell ⟨W4.heap.size, 0, none⟩ (.int .i64 ((p2 : Int) + 1))) W4.heap.size 3 (.int .i64 ((p2 : Int) + 1)) := h11r.set _
          have h98 : Boxed (wr.setCell ⟨W4.heap.size, 0, none⟩ (.int .i64 ((p2 : Int) + 1))) (w2.heap.size + 1) 3 (.int .i64 (p : Int)) := (Kept.setCell (S := fun k => k ≠ W4.heap.size) wr ⟨W4.heap.size, 0, none⟩ _ fun k hk => hk).heap h9r (by omega)
          have c11 := h11r.cell
          have z11 := h11r.frozen
          have HK8 := Lib.hid hk8
          clear hM hkr hk8 hzz hx hy offb o11
          gi_wp2
          refine ⟨HK8.out.mono fun k _ h => ⟨h.1, fun _ => h.2 rfl⟩, hs8, h98, ?_⟩
          rw [List.length_append, hpl2]; exact h118
    · intro q5 W5 hI5 hk5 hD5
      obtain ⟨hs5, h95, h115⟩ : Lst w w2.heap.size stop w1.heap.size w2.heap.size B q cq T [X.heap.size] W5 ∧ Boxed W5 (w2.heap.size + 1) 3 (.int .i64 (p : Int)) ∧ Boxed W5 W4.heap.size 3 (.int .i64 (q : Int)) := by
        rcases hI5 with ⟨e, h1, h2, h3⟩ | ⟨_, h⟩
        · refine ⟨h1, h2, ?_⟩
          rw [e, h1.want.len] at h3
          exact h3
        · exact h.elim
      have c5 := hs5.h5.cell
      have c6 := hs5.h6.cell
      have c8 := hs5.h8.cell
      have c9 := h95.cell
      have c11 := h115.cell
      have hm : ∀ (W : World) (_ : Lst w w2.heap.size stop w1.heap.size w2.heap.size B q cq T [X.heap.size] W) (_ : W.heap[Y.heap.size]? = some (.deferred (some []))), ∀ D ∈ [Y.heap.size, X.heap.size], W.heap[D]? = some (.deferred (some [])) ∧ w.heap.size ≤ D := fun W h h2 D hD => by
        have := HX.out
        have := HY.out
        have := HZ.out
        rcases List.mem_cons.1 hD with e | e
        · rw [e]; exact ⟨h2, by omega⟩
        · exact ⟨h.marks D e, by rw [List.mem_singleton.1 e]; omega⟩
      have hnd : [Y.heap.size, X.heap.size].Nodup := by
        have := HY.out
        simp; omega
      have HM := Lib.hid hm
      have HND := Lib.hid hnd
      have HD5 := Lib.hid hD5
      clear hI5 hk5 hD5 hm hnd
      by_cases hpq : p = q
      · have n0 : ((p : Int) == (q : Int)) = true := by simp; omega
        clear HEND
        go_wp2_with fail
        refine (law_known _).mono ?_
        rintro e w9 ⟨rfl, hb9⟩
        have hs9 := hs5.next hb9
        have hD9 : w9.heap[Y.heap.size]? = some (.deferred (some [])) := (hb9.block _ (Array.getElem?_eq_some_iff.1 HD5.out).1).trans HD5.out
        have z6 := hs9.h6.cell
        have f6 := hs9.h6.frozen
        have HD9 := Lib.hid hD9
        clear c5 c6 c8 c9 c11 hb9 hD9
        go_wp2_with fail
        refine law_end (Ds := [Y.heap.size, X.heap.size]) rfl (hs9.h6.set _) (hs9.below.setCell (p := ⟨w.heap.size + 1, 0, none⟩) (by simp) _) HND.out (fun D hD => ?_)
        obtain ⟨h1, h2⟩ := HM.out w9 hs9 HD9.out D hD
        refine ⟨(Below.heap_setCell _ _ _ _ (fun e => ?_)).trans h1, h2⟩
        have := HX.out
        have := HY.out
        have := HZ.out
        rcases List.mem_cons.1 hD with e2 | e2
        · simp only at e; omega
        · have := List.mem_singleton.1 e2; simp only at e; omega
      · have n0 : ((p : Int) == (q : Int)) = false := by simp; omega
        obtain rfl : (p : Int) = stop := by rcases HEND.out with h | h; exact absurd h hpq; exact h
        clear HEND
        go_wp2_with fail
        refine (law_known _).mono ?_
        rintro e w9 ⟨rfl, hb9⟩
        have hs9 := hs5.next hb9
        have hD9 : w9.heap[Y.heap.size]? = some (.deferred (some [])) := (hb9.block _ (Array.getElem?_eq_some_iff.1 HD5.out).1).trans HD5.out
        have z6 := hs9.h6.cell
        have f6 := hs9.h6.frozen
        have HD9 := Lib.hid hD9
        clear c5 c6 c8 c9 c11 hb9 hD9
        go_wp2_with fail
        refine law_end (Ds := [Y.heap.size, X.heap.size]) rfl (hs9.h6.set _) (hs9.below.setCell (p := ⟨w.heap.size + 1, 0, none⟩) (by simp) _) HND.out (fun D hD => ?_)
        obtain ⟨h1, h2⟩ := HM.out w9 hs9 HD9.out D hD
        refine ⟨(Below.heap_setCell _ _ _ _ (fun e => ?_)).trans h1, h2⟩
        have := HX.out
        have := HY.out
        have := HZ.out
        rcases List.mem_cons.1 hD with e2 | e2
        · simp only at e; omega
        · have := List.mem_singleton.1 e2; simp only at e; omega
theorem lineAll_any (K N stop : Int) (w : World) (_hK : I64 K) (hN : I64 N) (_hS : I64 stop) :
    Calls Tryd.prog 3 #[.int .i64 K, .int .i64 N, .int .i64 stop] w fun e w' => e = .returned (.bool true) ∧ Below w.heap.size w w' := by
  by_cases h : 0 ≤ K ∧ K ≤ 40 ∧ 0 ≤ N ∧ N ≤ 400 ∧ N % 2 = 0
  · obtain ⟨k, rfl⟩ := Int.eq_ofNat_of_zero_le h.1
    obtain ⟨n, rfl⟩ := Int.eq_ofNat_of_zero_le h.2.2.1
    by_cases h2 : k ≤ 4 ∧ n ≤ 6
    · exact lineAll_small k n stop w h2.1 h2.2 (by omega)
    · exact lineAll_big k n stop w (by omega) (by omega) (by omega) (by omega)
  · exact lineAll_bad K N stop hN w h
end
end Go.Proofs.YtpdkonpnhalecaaDoor
