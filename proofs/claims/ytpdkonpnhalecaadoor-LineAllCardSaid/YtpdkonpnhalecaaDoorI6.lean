/-
  Walk: LineAll returns true and leaves its arguments as they were. Condition: ints.
-/
import Derived.Test.YtpdkonpnhalecaaDoorI5
import Derived.Test.YtpdkonpnhalecaaDoorD2
namespace Go.Proofs.YtpdkonpnhalecaaDoor
open Go.RowKit Go.Shelf
attribute [local go_sem] Oper.semAt_some
theorem allW_len (K : Nat) : ∀ (d : Nat) (L : List Int), (allW K d L).length = (K + 1) ^ d
  | 0, _ => rfl
  | d + 1, L => by
    rw [allW, List.length_flatMap]
    have : (List.range (K + 1)).map (fun (g : Nat) => (allW K d (L ++ [(g : Int)])).length) = (List.range (K + 1)).map fun _ => (K + 1) ^ d := by
      apply List.map_congr_left
      intro g _
      exact allW_len K d _
    rw [this, List.map_const', List.length_range, List.sum_replicate_nat, Nat.pow_succ, Nat.mul_comm]
theorem grown_bound {K n : Nat} (hK : K ≤ 4) (hn : n ≤ 6) : (grown K n []).length ≤ 100000 := by
  have h1 : (grown K n []).length ≤ (allW K n []).length := List.length_filter_le _ _
  rw [allW_len] at h1
  have h2 : (K + 1) ^ n ≤ 5 ^ n := Nat.pow_le_pow_left (by omega) n
  have h3 : 5 ^ n ≤ 5 ^ 6 := Nat.pow_le_pow_right (by omega) hn
  have h4 : 5 ^ 6 = 15625 := rfl
  omega
theorem ref_Words (K n : Nat) (hK : K ≤ 4) (hn : n ≤ 6) (he : n % 2 = 0) (w : World) :
    Calls Tryd.prog 8 #[.int .i64 (K : Int), .int .i64 (n : Int)] w (GivesW w w.heap.size none (grown K n []).length (grown K n [])) := by
  have h := ref_grow K n (by omega) (by omega) he n [] none 0 0 none 0 0 [] [] w.heap.size w (by omega) (Ints.nil _ _) (Nat.le_refl _) (fun _ hx => by cases hx) (Wl.nil _ _) (Nat.le_refl _) (fun k hk => by cases hk) (by rw [Nat.zero_add]; exact grown_bound hK hn)
  have h2 := h.mono (fun e w' hg => givesW_as hg (N' := (grown K n []).length) (P' := grown K n []) (by omega) (by rfl))
  have H2 := Lib.hid h2
  clear h h2
  go_enter Tryd.func8, Tryd.ntmps8
  go_wp2_with fail
  refine H2.out.mono ?_
  rintro e w1 ⟨B, c, vs, rfl, hW, hb, hg, hl⟩
  go_wp2_with fail
  go_ret
  exact ⟨B, c, vs, rfl, hW, hb, hg, hl⟩
/-- The list of words that is wanted, in blocks from lo up to hi. -/
structure Want (W : World) (lo hi : Nat) (B : Option Addr) (q : Nat) (Ws : List (List Int)) : Prop where
  len : Ws.length = q
  each : ∀ j L, Ws[j]? = some L → ∃ g o A m c, B = some ⟨g, o, none⟩ ∧ lo ≤ g ∧ g < hi ∧ W.cell? ⟨g, o + j, none⟩ = some (.slice A m c) ∧ Ints W A m L ∧ ∀ k, blk A = some k → lo ≤ k ∧ k < hi
theorem Want.kept {W W' : World} {lo hi q : Nat} {B : Option Addr} {Ws : List (List Int)} {S : Nat → Prop} (h : Want W lo hi B q Ws) (hk : Kept S W W') (hS : ∀ k, lo ≤ k → k < hi → S k) : Want W' lo hi B q Ws :=
  ⟨h.len, fun j L hL => by
    obtain ⟨g, o, A, m, c, h1, h2, h3, h4, h5, h6⟩ := h.each j L hL
    refine ⟨g, o, A, m, c, h1, h2, h3, hk.cell h4 (hS g h2 h3), ⟨h5.len, h5.le, h5.fits, fun hm => ?_⟩, h6⟩
    obtain ⟨ad, rfl, hlt, hc⟩ := h5.2.2.2 hm
    refine ⟨ad, rfl, Nat.lt_of_lt_of_le hlt hk.size, fun i x hx => hk.cell (hc i x hx) ?_⟩
    rw [block_of_add]
    exact hS _ (h6 _ rfl).1 (h6 _ rfl).2⟩
theorem Want.of_wl {W : World} {lo : Nat} {B : Option Addr} {q c : Nat} {vs : List SW} {Ws : List (List Int)} (h : Wl W lo B q c vs Ws) : Want W lo W.heap.size B q Ws :=
  ⟨h.len, fun j L hL => by
    have hj : j < q := by have := (List.getElem?_eq_some_iff.1 hL).1; rw [h.len] at this; exact this
    obtain ⟨g, o, hB, hg1, hg2⟩ := h.row.form (by omega)
    obtain ⟨v, hv⟩ : ∃ v, vs[j]? = some v := ⟨_, List.getElem?_eq_getElem (by rw [h.vlen]; exact hj)⟩
    obtain ⟨h1, h2, h3⟩ := h.each j v L hv hL
    subst hB
    exact ⟨g, o, v.A, v.n, v.c, rfl, hg1, hg2, h.row.cell (u := v.val) (by rw [List.getElem?_map, hv]; rfl), h1, fun k hk => ⟨(h3 k hk).1, (h3 k hk).2.1⟩⟩⟩
theorem run_equalIn_func_nil (w : World) (d : Nat) (f : FuncId) (cap : Array Value) : (Op.equalIn (d + 1) 23 (.func (.func f) #[] cap) .nilFunc).run Tryd.prog w = .ok false w := by
  simp [Op.equalIn, run_underlying Tryd.underlying23]
theorem run_eql_func_nil (w : World) (f : FuncId) (cap : Array Value) : (binOp .eql 23 (.func (.func f) #[] cap) .nilFunc).run Tryd.prog w = .ok (.bool false) w := by
  simp only [binOp]
  simp [Op.equal, Op.maxDepth, run_equalIn_func_nil w 9999 f cap]
theorem run_loadBool (w : World) (g : Nat) (b : Bool) (h : w.cell? ⟨g, 0, none⟩ = some (.bool b)) : (loadVar 4 ⟨g, 0, none⟩).run Tryd.prog w = .ok (.bool b) w := by
  simp [loadVar, isAgg, run_underlying Tryd.underlying4, run_load, h]
theorem law_end {w w' : World} {b6 : Nat} {Ds : List Nat} {tmps : Array Value} (ht : tmps.getD 6 undef = .pointer (some ⟨b6, 0, none⟩)) (hr : Boxed w' b6 4 (.bool true)) (hb : Below w.heap.size w w') (hn : Ds.Nodup)
    (hm : ∀ D ∈ Ds, w'.heap[D]? = some (.deferred (some [])) ∧ w.heap.size ≤ D) :
    LeavesInM Fence.wide 0 Tryd.prog Tryd.f3 tmps (fun e W' => e = .returned (.bool true) ∧ Below w.heap.size w W') (Ds.map markD) .returning w' := by
  refine leaves_marks Ds w' hn (fun D hD => (hm D hD).1) fun W' hk => ?_
  have hr' : Boxed W' b6 4 (.bool true) := hk.heap hr (fun hD => by
    have h1 := (hm b6 hD).1
    rw [show w'.heap[b6]? = _ from hr] at h1
    cases h1)
  refine ⟨.bool true, ?_, rfl, hb.trans (hk.below hb.size fun k hk2 hD => by have := (hm k hD).2; omega)⟩
  simp only [results, show Tryd.f3.results = #[.cell 6 4] from rfl]
  simp [asAddr, run_loadBool W' b6 true hr'.cell, show tmps[6]?.getD undef = .pointer (some ⟨b6, 0, none⟩) by simpa using ht]
set_option maxRecDepth 100000 in
set_option maxHeartbeats 12800000 in
theorem lineAll_bad (K N stop : Int) (hN : I64 N) (w : World) (hbad : ¬(0 ≤ K ∧ K ≤ 40 ∧ 0 ≤ N ∧ N ≤ 400 ∧ N % 2 = 0)) :
    Calls Tryd.prog 3 #[.int .i64 K, .int .i64 N, .int .i64 stop] w fun e w' => e = .returned (.bool true) ∧ Below w.heap.size w w' := by
  refine callsIn_wide (n := 0).1 ?_
  refine callsIn_of_wp_marks Tryd.func3 rfl trivial ?_ rfl
  simp only [Tryd.ntmps3, List.size_toArray, List.length_cons, List.length_nil, Nat.reduceAdd, Nat.reduceSub, Array.replicate_succ, Array.replicate_zero, List.push_toArray, List.append_toArray, List.nil_append, List.cons_append]
  refine wpIn_wide.2 ?_
  go_wp2_with fail
  refine (line_Words K N _).mono ?_
  rintro e w1 ⟨rfl, hw1⟩
  have hb1 : Below w.heap.size w w1 := by
    rw [hw1]
    exact ((((Below.refl _ _).alloc (Nat.le_refl _) _).alloc (by simp) _).alloc (by simp; omega) _).alloc (by simp; omega) _
  have hk1 : Boxed w1 (w.heap.size + 2) 3 (.int .i64 K) := by
    rw [hw1]
    have b := Boxed.new ((w.alloc (.cells #[.int .i64 stop] 3)).alloc (.cells #[.bool false] 4)) 3 (.int .i64 K)
    simp only [World.size_alloc] at b
    exact b.alloc _
  have hn1 : Boxed w1 (w.heap.size + 3) 3 (.int .i64 N) := by
    rw [hw1]
    have b := Boxed.new (((w.alloc (.cells #[.int .i64 stop] 3)).alloc (.cells #[.bool false] 4)).alloc (.cells #[.int .i64 K] 3)) 3 (.int .i64 N)
    simp only [World.size_alloc] at b
    exact b
  have hr1 : Boxed w1 (w.heap.size + 1) 4 (.bool false) := by
    rw [hw1]
    have b := Boxed.new (w.alloc (.cells #[.int .i64 stop] 3)) 4 (.bool false)
    simp only [World.size_alloc] at b
    exact (b.alloc _).alloc _
  have hz1 : w1.heap.size = w.heap.size + 4 := by rw [hw1]; simp
  have HZ := Lib.hid hz1
  have hseq := words_none K N hN hbad (w.heap.size + 2) (w.heap.size + 3)
  have HSEQ := Lib.hid hseq
  clear hw1 hz1 hseq
  have hcases : K < 0 ∨ (0 ≤ K ∧ 40 < K) ∨ (0 ≤ K ∧ K ≤ 40 ∧ N < 0) ∨ (0 ≤ K ∧ K ≤ 40 ∧ 0 ≤ N ∧ N % 2 = 1) ∨ (0 ≤ K ∧ K ≤ 40 ∧ 0 ≤ N ∧ N % 2 = 0 ∧ 400 < N) := by omega
  clear hbad
  have heq := fun (w : World) (cap : Array Value) => run_eql_func_nil w 14 cap
  rcases hcases with p1 | ⟨p1, p2⟩ | ⟨p1, p2, p3⟩ | ⟨p1, p2, p3, p4⟩ | ⟨p1, p2, p3, p4, p5⟩
  all_goals
    go_wp2_with fail
    clear heq
    refine wpIn_wide (n := 0).1 ?_
    refine wp_range (lb := capw (w.heap.size + 2) (w.heap.size + 3)) rfl (enters_of Tryd.func14 (by kernel_rfl) rfl) HSEQ.out (fun k => k < w.heap.size + 2) (fun k hk => by have := HZ.out; omega) (fun W' hb => ⟨(hb.block _ hk1.lt).trans hk1, (hb.block _ hn1.lt).trans hn1⟩) (by have := HZ.out; constructor <;> omega)
      (fun _ W' => Below w.heap.size w W' ∧ Boxed W' (w.heap.size + 1) 4 (.bool false)) (fun _ _ _ => False) (fun _ a b hs hk => ⟨hs.1.trans (hk.below hs.1.size (fun k hk => by omega)), hk.heap hs.2 (by omega)⟩) (fun _ _ _ _ hs _ => hs) ⟨hb1, hr1⟩ (fun _ _ _ _ h _ => h) ?_ ?_ ?_
    · intro l pre A n c L W hl hA hpre
      have := hpre.length_le
      simp at this
    · intro W4 hI4 hk4 _ hD4
      have hb4 := hI4.1
      have hr4 := hI4.2
      clear hI4 hk4
      go_wp2_with fail
      refine (law_known _).mono ?_
      rintro e w5 ⟨rfl, hb5⟩
      have hb6 := below_chain hb4 hb5 hb4.size
      have hr5 : Boxed w5 (w.heap.size + 1) 4 (.bool false) := (hb5.block _ hr4.lt).trans hr4
      have hD5 : w5.heap[w1.heap.size]? = some (.deferred (some [])) := (hb5.block _ (Array.getElem?_eq_some_iff.1 hD4).1).trans hD4
      have c5 := hr5.cell
      have z5 := hr5.frozen
      have HD5 := Lib.hid hD5
      clear hb4 hb5 hr4 hD4 hD5
      go_wp2_with fail
      refine law_end (Ds := [w1.heap.size]) rfl (hr5.set _) (hb6.setCell (p := ⟨w.heap.size + 1, 0, none⟩) (by simp) _) (by simp) (fun D hD => ?_)
      obtain rfl : D = w1.heap.size := by simpa using hD
      have := HZ.out
      exact ⟨(Below.heap_setCell _ _ _ _ (by simp; omega)).trans HD5.out, by omega⟩
    · intro c q W _ h
      exact h.elim
end Go.Proofs.YtpdkonpnhalecaaDoor
