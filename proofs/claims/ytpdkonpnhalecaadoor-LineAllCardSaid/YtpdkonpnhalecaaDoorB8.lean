/-
  Contracts: line.least, slices.Compare, line.normal, line.Normal, line.Forget, line.Same. Conditions: the slices read as lists of ints.
-/
import Derived.Test.YtpdkonpnhalecaaDoorB7
namespace Go.Proofs.YtpdkonpnhalecaaDoor
open Go.RowKit

set_option maxHeartbeats 800000 in
theorem least1 (a b n c bn bw : Nat) (A : Option Addr) (L : List Int) (w : World) (hA : Ints w A n L) (hfit : ∀ x ∈ L, -1000 ≤ x ∧ x ≤ 1000) (ha : a < n) (hb : b < n) (hle : n ≤ 400)
    (hn : w.cell? ⟨bn, 0, none⟩ = some (.int .i64 (n : Int))) (hw : w.cell? ⟨bw, 0, none⟩ = some (.slice A n c)) :
    Calls Tryd.prog 73 #[.int .i64 a, .int .i64 b, .pointer (some ⟨bn, 0, none⟩), .pointer (some ⟨bw, 0, none⟩)] w fun e w' => e = .returned (.int .i64 (cmpL (rotL L a) (rotL L b))) ∧ Drawn w w' := by
  have HL := Lib.hid hA.len
  have HF := Lib.hid hfit
  clear hfit
  go_enter Tryd.func73, Tryd.ntmps73
  go_wp2_with fail
  go_loopw [11] (fun i wr => ∃ k : Nat, k ≤ n ∧ i = .int .i64 k ∧ Hid (cmpL ((rotL L a).drop k) ((rotL L b).drop k) = cmpL (rotL L a) (rotL L b)) ∧ Drawn w wr) (fun i _ => n - (intOf i).toNat)
  case atStart => exact ⟨0, Nat.zero_le _, rfl, rfl, Drawn.refl w⟩
  case round =>
    obtain ⟨k, hk, rfl, heq, m, rfl⟩ := hrel
    by_cases hlt : k < n
    · obtain ⟨p, hp⟩ : ∃ p, (a + k) % n = p := ⟨_, rfl⟩
      obtain ⟨q, hq⟩ : ∃ q, (b + k) % n = q := ⟨_, rfl⟩
      have hpn : p < n := by subst hp; exact Nat.mod_lt _ (by omega)
      have hqn : q < n := by subst hq; exact Nat.mod_lt _ (by omega)
      have hpi : ((a : Int) + (k : Int)) % (n : Int) = (p : Int) := by subst hp; simp
      have hqi : ((b : Int) + (k : Int)) % (n : Int) = (q : Int) := by subst hq; simp
      obtain ⟨ad, x, rfl, hx, _, _, hc⟩ := hA.at_ hpn
      obtain ⟨y, hy, _, _, hd⟩ := hA.also hqn
      have hX : (rotL L a)[k]? = some x := by rw [rotL_get L (by rw [HL.out]; exact ha) (by rw [HL.out]; exact hlt), HL.out, hp]; exact hx.out
      have hY : (rotL L b)[k]? = some y := by rw [rotL_get L (by rw [HL.out]; exact hb) (by rw [HL.out]; exact hlt), HL.out, hq]; exact hy.out
      obtain ⟨hx1, hx2⟩ := HF.out x (List.mem_of_getElem? hx.out)
      obtain ⟨hy1, hy2⟩ := HF.out y (List.mem_of_getElem? hy.out)
      have HX := Lib.hid hX
      have HY := Lib.hid hY
      clear hp hq hX hY
      have s1 : (0 : Int) ≤ (a : Int) + (k : Int) := by omega
      have s2 : (a : Int) + (k : Int) ≤ 1000 := by omega
      have s3 : (0 : Int) ≤ (b : Int) + (k : Int) := by omega
      have s4 : (b : Int) + (k : Int) ≤ 1000 := by omega
      by_cases hxy : x = y
      · subst hxy
        have hn' := Lib.hid ((cmpL_same HX.out HY.out).symm.trans heq.out)
        go_wp2_with fail
        go_quiet (fail)
        go_wp2_with fail
        go_roundw
        case rel => exact ⟨k + 1, by omega, by go_num, hn', drawn1 _ _⟩
        case measure => simp [intOf]; omega
      · have hf := Lib.hid ((cmpL_diff HX.out HY.out hxy).symm.trans heq.out)
        have hxy' : (x != y) = true := by simpa using hxy
        clear hxy
        go_wp2_with fail
        go_quiet (fail)
        go_wp2_with fail
        go_ret
        exact ⟨ret_int hf.out, drawn1 _ _⟩
    · go_wp2_with fail
      go_ret
      have hkn : k = n := by omega
      subst hkn
      refine ⟨ret_int ?_, drawn1 _ _⟩
      rw [← heq.out, List.drop_of_length_le (by rw [rotL_len _ _ (by rw [HL.out]; omega), HL.out]; exact Nat.le_refl _), cmpL_nil]
set_option maxHeartbeats 800000 in
theorem line_least (A : Option Addr) (n c : Nat) (L : List Int) (w : World) (hA : Ints w A n L) (hfit : ∀ x ∈ L, -1000 ≤ x ∧ x ≤ 1000) (hn0 : 0 < n) (hle : n ≤ 400) (hcap : n ≤ c) :
    Calls Tryd.prog 50 #[.slice A n c] w fun e w' => ∃ A' c', e = .returned (.slice A' n c') ∧ Own w' w.heap.size A' n c' (leastL L) ∧ Below w.heap.size w w' := by
  have HL := Lib.hid hA.len
  have HF := Lib.hid hfit
  clear hfit
  have hmf : ∀ (fn : Fn) (first cap : Array Value) (w : World), (Instr.makeFunc fn first cap).run Tryd.prog w = .ok (.func fn first cap) w := fun _ _ _ _ => rfl
  obtain ⟨W, hW⟩ : ∃ W, W = (w.alloc (.cells #[.slice A n c] 28)).alloc (.cells #[.int .i64 (n : Int)] 3) := ⟨_, rfl⟩
  have hbW : Below w.heap.size w W := by subst hW; exact ((Below.refl _ _).alloc (Nat.le_refl _) _).alloc (by simp) _
  have hAW : Ints W A n L := hA.below hbW
  have hcw : W.cell? ⟨w.heap.size, 0, none⟩ = some (.slice A n c) := by subst hW; rw [World.cell?_alloc_past _ _ _ (by simp), World.cell?_alloc_at _ _ _ _ rfl]; rfl
  have hcn : W.cell? ⟨w.heap.size + 1, 0, none⟩ = some (.int .i64 (n : Int)) := by subst hW; rw [World.cell?_alloc_at _ _ _ _ (by simp)]; rfl
  have HW := Lib.hid hW
  go_enter Tryd.func50, Tryd.ntmps50
  go_wp2_with fail
  rw [← HW.out]
  clear hbW HW
  have hbW : Hid (Below w.heap.size w W) := by subst hW; exact ((Below.refl _ _).alloc (Nat.le_refl _) _).alloc (by simp) _
  clear hW
  go_loopw [4, 6] (fun fr i wr => ∃ k j f : Nat, j = 2 * k + 2 ∧ 2 * k < n ∧ f < n ∧ i = .int .i64 j ∧ fr = .int .i64 f ∧ Hid (f = bestTo L k) ∧ Drawn W wr) (fun _ i _ => (n + 2) - (intOf i).toNat)
  case atStart => exact ⟨0, 2, 0, rfl, by omega, hn0, rfl, rfl, rfl, Drawn.refl W⟩
  case round =>
    obtain ⟨k, j, f, hj, hk, hf, rfl, rfl, HB, hd⟩ := hrel
    have HJ := Lib.hid hj
    have hj1 : j ≤ 2 * k + 2 := by omega
    have hj2 : 2 * k + 2 ≤ j := by omega
    clear hj
    have hcw' : wr.cell? ⟨w.heap.size, 0, none⟩ = some (.slice A n c) := ((hd.below _).cell (World.block_lt_of_cell? W _ hcw)).trans hcw
    have hcn' : wr.cell? ⟨w.heap.size + 1, 0, none⟩ = some (.int .i64 (n : Int)) := ((hd.below _).cell (World.block_lt_of_cell? W _ hcn)).trans hcn
    by_cases hlt : j < n
    · go_wp2_with fail
      refine (least1 j f n _ _ _ A L _ (hAW.drawn hd) HF.out hlt hf hle hcn' hcw').mono ?_
      rintro e w1 ⟨rfl, hd1⟩
      have hd2 := hd.trans hd1
      have hcw1 : w1.cell? ⟨w.heap.size, 0, none⟩ = some (.slice A n c) := ((hd2.below _).cell (World.block_lt_of_cell? W _ hcw)).trans hcw
      have hcn1 : w1.cell? ⟨w.heap.size + 1, 0, none⟩ = some (.int .i64 (n : Int)) := ((hd2.below _).cell (World.block_lt_of_cell? W _ hcn)).trans hcn
      by_cases hneg : cmpL (rotL L j) (rotL L f) < 0
      · have HB' : Hid (j = bestTo L (k + 1)) := by
          unfold Hid; rw [bestTo, ← HB.out, show 2 * (k + 1) = j by omega, if_pos hneg]
        go_wp2_with fail
        go_roundw
        case rel => exact ⟨k + 1, j + 2, j, by omega, by omega, hlt, by go_num, rfl, HB', hd2⟩
        case measure => simp [intOf]; omega
      · have HB' : Hid (f = bestTo L (k + 1)) := by
          unfold Hid; rw [bestTo, ← HB.out, show 2 * (k + 1) = j by omega, if_neg hneg]
        go_wp2_with fail
        go_roundw
        case rel => exact ⟨k + 1, j + 2, f, by omega, by omega, hf, by go_num, rfl, HB', hd2⟩
        case measure => simp [intOf]; omega
    · have hkk : (n - 1) / 2 = k := by omega
      have hA1 := hAW.drawn hd
      have hres : Hid (rotL L f = leastL L) := by
        unfold Hid leastL; rw [HL.out, hkk, HB.out]
      have hbr : Hid (Below w.heap.size w wr) := hbW.out.trans (hd.below _)
      have b0 : (0 : Int) ≤ (f : Int) := by omega
      have b1 : (f : Int) ≤ (n : Int) := by omega
      have b2 : (f : Int) ≤ (c : Int) := by omega
      have hfn : f ≤ n := by omega
      clear hkk HB hd hAW hcw hcn hbW HL
      go_wp2_with fail
      go_region_held3 (fun wx => Below wr.heap.size wr wx ∧ wx.cell? ⟨w.heap.size, 0, none⟩ = some (.slice A n c)) (first | exact keepS hcw' (Below.refl _ _).drew | exact keepT hcw' (by assumption) (by assumption))
        (first
          | ((refine stepS rfl (.const (.slice none 0 0)) (.tmp 23) (by rfl) (by rfl) (Own.nil _ wr.heap.size) (Ints.from (c := c) (hA1.below (And.left (by assumption))) hfn hcap) (by rfl) (by rfl) (n - f) (by omega) (by omega) (Below.size (And.left (by assumption))) ?_; intro A1 c1 w1 hown1 hb1 hg1 hl1))
          | ((refine stepS rfl (.tmp 24) (.tmp 27) (by rfl) (by rfl) hown1 (Ints.to (hA1.below (And.left (by assumption))) hfn) (by rfl) (by rfl) n (by omega) (by omega) (Below.size (And.left (by assumption))) ?_; intro A2 c2 w2 hown2 hb2 hg2 hl2)))
      all_goals
        go_wp2_with fail
        all_goals
          go_ret
          have hsz := hbr.out.size
          exact ⟨_, _, rfl, by rw [← hres.out]; exact (by simpa [rotL] using hown2.mono hsz), below_chain hbr.out (And.left (by assumption)) hsz⟩
end Go.Proofs.YtpdkonpnhalecaaDoor
