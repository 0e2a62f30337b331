/-
  Contract: the examples of the chapter (known) hold. No condition.
-/
import Derived.Test.YtpdkonpnhalecaaDoorC4
import Derived.Test.YtpdkonpnhalecaaDoorA2W
import Derived.Test.YtpdkonpnhalecaaDoorB9W
import Derived.Test.YtpdkonpnhalecaaDoorD1
namespace Go.Proofs.YtpdkonpnhalecaaDoor
open Go.RowKit

theorem Ints.made (w : World) (L : List Int) (t : TypeId) (hf : ∀ x ∈ L, I64 x) (hl : L.length ≤ 1000) : Ints (w.alloc (.cells (L.map (Value.int .i64)).toArray t)) (some ⟨w.heap.size, 0, none⟩) L.length L :=
  ⟨rfl, by omega, hf, fun _ => ⟨_, rfl, by simp, fun k x hx => by rw [Addr.add_lit, World.cell?_alloc_at _ _ _ _ rfl]; simp [hx]⟩⟩
theorem k1 : okL (errW [1, 2, 3, 0]) (normalL [1, 2, 3, 0]) = [0, 3, 2, 1] := by decide +kernel
theorem k2 : okL (errW [2, 1, 1, 3]) (normalL [2, 1, 1, 3]) = [2, 3] := by decide +kernel
theorem k3 : okL (errW [0, 1, 1, 0]) (normalL [0, 1, 1, 0]) = [] := by decide +kernel
theorem k4 : errG 3 [0, 2] 1 = 0 := by decide +kernel
theorem k5 : normalL ([0, 2].map (dropG 1)) = [0, 1] := by decide +kernel
theorem k6 : errF 3 [2, 0] = 0 := by decide +kernel
theorem k7 : windsL [2, 0] (3 : Int).toNat = [-1, -1, 0] := by decide +kernel
theorem k8 : errR [0, 1, 0, 1] = 8 := by
  have h1 : errW [0, 1, 0, 1] = 0 := by decide +kernel
  have h2 : redB [0, 1, 0, 1] = true := by decide +kernel
  have h3 : ¬RanksOk [0, 1, 0, 1] := fun h => h.1 0 2 (by decide) (by decide) (by decide) (by decide) (by decide +kernel)
  unfold errR
  rw [if_pos h1, if_pos h2, if_neg h3]
theorem k9 : errF 3 [0, 1, 2, 3] = 0 := by decide +kernel
theorem k10 : insTo [0, 1, 2, 3] (3 : Int).toNat = [1, 3] := by decide +kernel
theorem k11 : Lib.join ((strsOf [0, 12]).map (·.data.toList)) [32] = [48, 32, 49, 50] := by
  have h0 : Lib.decDigits 0 = [48] := by rw [Lib.decDigits]; rfl
  have h1 : Lib.decDigits 1 = [49] := by rw [Lib.decDigits]; rfl
  have h12 : Lib.decDigits 12 = [49, 50] := by rw [Lib.decDigits]; simp [h1]
  simp [strsOf, bytesOf, h0, h12]
  rfl

theorem mk (w : World) (L : List Int) (n : Nat) (hf : ∀ x ∈ L, I64 x) (hl : L.length ≤ 1000) (hn : L.length = n) : Ints (w.alloc (.cells (L.map (Value.int .i64)).toArray 3)) (some ⟨w.heap.size, 0, none⟩) n L := by
  subst hn
  exact Ints.made w L _ hf hl
theorem gives_ok {w w' : World} {L M : List Int} {er : Int} {e : Ending} (h : Gives w (okL er L) er e w') (he : er = 0) (hL : L = M) :
    ∃ A c, e = .returned (.tuple #[.slice A M.length c, .int .i64 0]) ∧ Own w' w.heap.size A M.length c M ∧ Below w.heap.size w w' := by
  subst hL
  rw [okL_yes he, he] at h
  exact h
set_option maxHeartbeats 1600000 in
set_option maxRecDepth 100000 in
theorem law_known (w : World) : Calls Tryd.prog 7 #[] w fun e w' => e = .returned (.bool true) ∧ Below w.heap.size w w' := by
  have b0 := fun o => (Below.refl w.heap.size w).alloc (Nat.le_refl _) o
  go_enter Tryd.func7, Tryd.ntmps7
  go_wp2_with fail
  refine (law_normal _ _ _ _ _ (mk w [1, 2, 3, 0] 4 (by simp [I64]) (by decide) rfl)).mono ?_
  rintro e w1 ⟨A1, m1, c1, rfl, hown, hb⟩
  rw [k1] at hown
  have b1 : Below w.heap.size w w1 := below_chain (b0 _) hb (by simp)
  have i1 := (hown.alloc (.cells (([0, 3, 2, 1] : List Int).map (Value.int .i64)).toArray 3)).ints
  clear hown hb
  have b2 := b1.alloc b1.size (.cells (([0, 3, 2, 1] : List Int).map (Value.int .i64)).toArray 3)
  go_wp2_with fail
  refine (ref_equal _ _ _ _ _ _ _ _ _ i1 (mk w1 [0, 3, 2, 1] 4 (by simp [I64]) (by decide) rfl)).mono ?_
  rintro e w2 ⟨rfl, hd⟩
  have b3 : Below w.heap.size w w2 := b2.trans (hd.below _)
  clear b0 i1 b1 b2 hd
  go_wp2_with fail
  have b4 := b3.alloc b3.size (.cells (([2, 1, 1, 3] : List Int).map (Value.int .i64)).toArray 3)
  refine (law_normal _ _ _ _ _ (mk w2 [2, 1, 1, 3] 4 (by simp [I64]) (by decide) rfl)).mono ?_
  rintro e w3 ⟨A3, m3, c3, rfl, hown, hb⟩
  rw [k2] at hown
  have b5 : Below w.heap.size w w3 := below_chain b4 hb b4.size
  have i1 := (hown.alloc (.cells (([2, 3] : List Int).map (Value.int .i64)).toArray 3)).ints
  have b6 := b5.alloc b5.size (.cells (([2, 3] : List Int).map (Value.int .i64)).toArray 3)
  clear hown hb b3 b4 b5
  go_wp2_with fail
  refine (ref_equal _ _ _ _ _ _ _ _ _ i1 (mk w3 [2, 3] 2 (by simp [I64]) (by decide) rfl)).mono ?_
  rintro e w4 ⟨rfl, hd⟩
  have b3 : Below w.heap.size w w4 := b6.trans (hd.below _)
  clear i1 b6 hd
  go_wp2_with fail
  have b4 := b3.alloc b3.size (.cells (([0, 1, 1, 0] : List Int).map (Value.int .i64)).toArray 3)
  refine (law_normal _ _ _ _ _ (mk w4 [0, 1, 1, 0] 4 (by simp [I64]) (by decide) rfl)).mono ?_
  rintro e w5 ⟨A5, m5, c5, rfl, hown, hb⟩
  rw [k3] at hown
  obtain rfl : 0 = m5 := hown.len
  have b5 : Below w.heap.size w w5 := below_chain b4 hb b4.size
  have b6 := b5.alloc b5.size (.cells (([0, 2] : List Int).map (Value.int .i64)).toArray 3)
  clear hown hb b3 b4 b5
  go_wp2_with fail
  refine (line_Forget _ _ _ _ _ _ _ (mk w5 [0, 2] 2 (by simp [I64]) (by decide) rfl)).mono ?_
  intro e w6 hg
  obtain ⟨F, cF, rfl, hF, hb⟩ := gives_ok hg k4 k5
  have b7 : Below w.heap.size w w6 := below_chain b6 hb b6.size
  have b8 := b7.alloc b7.size (.cells (([2, 0] : List Int).map (Value.int .i64)).toArray 3)
  have hF1 := hF.ints.alloc (.cells (([2, 0] : List Int).map (Value.int .i64)).toArray 3)
  clear hg hF hb b6 b7
  go_wp2_with fail
  refine (line_Winding _ _ _ _ _ _ (mk w6 [2, 0] 2 (by simp [I64]) (by decide) rfl)).mono ?_
  intro e w7 hg
  obtain ⟨X, cX, rfl, hX, hb⟩ := gives_ok hg k6 k7
  have b9 : Below w.heap.size w w7 := below_chain b8 hb b8.size
  have hF2 := (hF1.below hb).alloc (.cells (([0, 1, 0, 1] : List Int).map (Value.int .i64)).toArray 3)
  have hX2 := hX.ints.alloc (.cells (([0, 1, 0, 1] : List Int).map (Value.int .i64)).toArray 3)
  have b10 := b9.alloc b9.size (.cells (([0, 1, 0, 1] : List Int).map (Value.int .i64)).toArray 3)
  clear hg hX hb b8 b9 hF1
  go_wp2_with fail
  refine (line_Ranks _ _ _ _ _ (mk w7 [0, 1, 0, 1] 4 (by simp [I64]) (by decide) rfl)).mono ?_
  rintro e w8 ⟨R, cR, rfl, hR, hb⟩
  rw [k8]
  have b11 : Below w.heap.size w w8 := below_chain b10 hb b10.size
  have hF3 := (hF2.below hb).alloc (.cells (([0, 1, 2, 3] : List Int).map (Value.int .i64)).toArray 3)
  have hX3 := (hX2.below hb).alloc (.cells (([0, 1, 2, 3] : List Int).map (Value.int .i64)).toArray 3)
  have b12 := b11.alloc b11.size (.cells (([0, 1, 2, 3] : List Int).map (Value.int .i64)).toArray 3)
  clear hR hb b10 b11 hF2 hX2
  go_wp2_with fail
  refine (line_Inside _ _ _ _ _ _ (mk w8 [0, 1, 2, 3] 4 (by simp [I64]) (by decide) rfl)).mono ?_
  intro e w9 hg
  obtain ⟨Y, cY, rfl, hY, hb⟩ := gives_ok hg k9 k10
  have b13 : Below w.heap.size w w9 := below_chain b12 hb b12.size
  have hF4 := (hF3.below hb).alloc (.cells (([0, 1] : List Int).map (Value.int .i64)).toArray 3)
  have hX4 := (hX3.below hb).alloc (.cells (([0, 1] : List Int).map (Value.int .i64)).toArray 3)
  have hY4 := hY.ints.alloc (.cells (([0, 1] : List Int).map (Value.int .i64)).toArray 3)
  have b14 := b13.alloc b13.size (.cells (([0, 1] : List Int).map (Value.int .i64)).toArray 3)
  clear hg hY hb b12 b13 hF3 hX3
  go_wp2_with fail
  refine (ref_equal _ _ _ _ _ _ _ _ _ hF4 (mk w9 [0, 1] 2 (by simp [I64]) (by decide) rfl)).mono ?_
  rintro e w10 ⟨rfl, hd⟩
  have b15 := b14.trans (hd.below _)
  have hX5 := (hX4.drawn hd).alloc (.cells (([-1, -1, 0] : List Int).map (Value.int .i64)).toArray 3)
  have hY5 := (hY4.drawn hd).alloc (.cells (([-1, -1, 0] : List Int).map (Value.int .i64)).toArray 3)
  have b16 := b15.alloc b15.size (.cells (([-1, -1, 0] : List Int).map (Value.int .i64)).toArray 3)
  clear hd b14 b15 hF4 hX4 hY4
  go_wp2_with fail
  refine (ref_equal _ _ _ _ _ _ _ _ _ hX5 (mk w10 [-1, -1, 0] 3 (by simp [I64]) (by decide) rfl)).mono ?_
  rintro e w11 ⟨rfl, hd⟩
  have b17 := b16.trans (hd.below _)
  have hY6 := (hY5.drawn hd).alloc (.cells (([1, 3] : List Int).map (Value.int .i64)).toArray 3)
  have b18 := b17.alloc b17.size (.cells (([1, 3] : List Int).map (Value.int .i64)).toArray 3)
  clear hd b16 b17 hX5 hY5
  go_wp2_with fail
  refine (ref_equal _ _ _ _ _ _ _ _ _ hY6 (mk w11 [1, 3] 2 (by simp [I64]) (by decide) rfl)).mono ?_
  rintro e w12 ⟨rfl, hd⟩
  have b19 := b18.trans (hd.below _)
  have b20 := b19.alloc b19.size (.cells (([0, 12] : List Int).map (Value.int .i64)).toArray 3)
  clear hd b18 b19 hY6
  go_wp2_with fail
  refine (line_Print_small _ _ _ _ _ (mk w12 [0, 12] 2 (by simp [I64]) (by decide) rfl) (by omega) (by omega) (by simp) (by rw [k11]; decide)).mono ?_
  rintro e w13 ⟨rfl, hb⟩
  rw [k11]
  have b21 := below_chain b20 hb b20.size
  clear b20 hb
  go_wp2_with fail
  go_ret
  exact ⟨rfl, b21⟩
end Go.Proofs.YtpdkonpnhalecaaDoor
