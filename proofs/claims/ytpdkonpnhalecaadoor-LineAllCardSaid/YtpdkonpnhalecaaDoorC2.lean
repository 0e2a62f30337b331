/-
  Contract: line.drawn. Conditions: the slices read as a word's letters and as ranks.
-/
import Derived.Test.YtpdkonpnhalecaaDoorC1
import Derived.Test.YtpdkonpnhalecaaDoorMap
import Derived.Test.YtpdkonpnhalecaaDoorP4
namespace Go.Proofs.YtpdkonpnhalecaaDoor
open Go.RowKit

def pairV (L R : List Int) (i : Nat) : Value := .agg #[.int .i64 (lat L i), .int .i64 (lat R i)]
def kvTo (L R : List Int) (k : Nat) : List (Value × Value) := (List.range k).map fun i => (pairV L R i, .bool true)
theorem pairV_eq {L R : List Int} {i j : Nat} : pairV L R i = pairV L R j ↔ two L R i j := by
  unfold pairV two
  simp
theorem kvTo_succ (L R : List Int) (k : Nat) : kvTo L R (k + 1) = kvTo L R k ++ [(pairV L R k, .bool true)] := by
  simp [kvTo, List.range_succ]
theorem kvTo_at {L R : List Int} {k j : Nat} {a b : Value} (h : (kvTo L R k)[j]? = some (a, b)) : j < k ∧ a = pairV L R j ∧ b = .bool true := by
  unfold kvTo at h
  rw [List.getElem?_map] at h
  obtain ⟨x, hx, hxe⟩ := Option.map_eq_some_iff.1 h
  obtain ⟨hlt, hx⟩ := List.getElem?_eq_some_iff.1 hx
  rw [List.getElem_range] at hx
  rw [List.length_range] at hlt
  subst hx
  injection hxe with e1 e2
  exact ⟨hlt, e1.symm, e2.symm⟩

/-- Returns a truth value: whether p. -/
def GivesB (w : World) (p : Prop) : Ending → World → Prop := fun e w' => ∃ b, e = .returned (.bool b) ∧ (b = true ↔ p) ∧ Below w.heap.size w w'
theorem Ints.cellOf {w : World} {ad : Addr} {n k : Nat} {L : List Int} {x : Int} (h : Ints w (some ad) n L) (hk : k < n) (hx : L[k]? = some x) : w.cell? (ad.add k) = some (.int .i64 x) := by
  obtain ⟨x', hx', _, _, hc⟩ := h.also hk
  rw [hx] at hx'
  rw [hc, Option.some.inj hx'.out]

set_option maxHeartbeats 1600000 in
set_option maxRecDepth 100000 in
theorem line_drawn (n c c2 : Nat) (A B : Option Addr) (L R : List Int) (w : World) (hA : Ints w A n L) (hB : Ints w B n R) (h40 : In40 L) (hR : ∀ x ∈ R, 0 ≤ x ∧ x ≤ 1000) (hle : n ≤ 400) :
    Calls Tryd.prog 55 #[.slice A n c, .slice B n c2] w (GivesB w (DrawnP L R)) := by
  have HL := Lib.hid hA.len
  have HR := Lib.hid hB.len
  have H4 := Lib.hid h40
  have HRb := Lib.hid hR
  clear h40 hR
  have hmm := @run_makeMap Tryd.prog
  go_enter Tryd.func55, Tryd.ntmps55
  go_wp2_with (first | (at_make; refine makeN rfl _ _ rfl n rfl rfl (by omega) (Nat.le_refl _) ?_; intro w1 hown hb1 hz1))
  obtain ⟨q, hq⟩ : ∃ q, q = w1.heap.size := ⟨_, rfl⟩
  rw [← hq]
  have hqw : w.heap.size < q := by omega
  have HM0 := KMap.made w1 Tryd.prog 53
  rw [← hq] at HM0
  have hown0 := hown.alloc (.map #[] 0)
  have hb0 := hb1.alloc (Nat.le_of_lt hz1) (.map #[] 0)
  obtain ⟨w0, hw0⟩ : ∃ w0, w0 = w1.alloc (.map #[] 0) := ⟨_, rfl⟩
  rw [← hw0] at hown0 HM0 hb0
  rw [← hw0]
  clear hw0 hq hown hb1 hz1 hmm
  go_loopw [26] (fun i wr => ∃ (k : Nat) (P : List Int) (kv : List (Value × Value)), k ≤ n ∧ i = .int .i64 k ∧ Own wr w.heap.size (some ⟨w.heap.size, 0, none⟩) n n P ∧ KMap wr Tryd.prog 53 q kv ∧ Below w.heap.size w wr ∧ Hid (∀ j, j < k → lat P j = placeI L R n j) ∧ Hid (kv = kvTo L R k) ∧ Hid (∀ i j, j < i → i < k → ¬two L R i j)) (fun i _ => n - (intOf i).toNat)
  case atStart => exact ⟨0, _, [], Nat.zero_le _, rfl, hown0, HM0, hb0, Lib.hid (fun j h => absurd h (by omega)), Lib.hid rfl, Lib.hid (fun i j _ h => absurd h (by omega))⟩
  case round =>
    clear hown0 HM0 hb0
    obtain ⟨k, P, kv, hk, rfl, hown, hm, hbr, HP, HK, HD⟩ := hrel
    by_cases hlt : k < n
    · obtain ⟨ad, x, rfl, hx, hx1, hx2, hc⟩ := (hA.below hbr).at_ hlt
      obtain ⟨ae, y, rfl, hy, hy1, hy2, hd⟩ := (hB.below hbr).at_ hlt
      obtain ⟨hx3, hx4⟩ := H4.out.at_ hx.out
      have hy34 := HRb.out y (List.mem_of_getElem? hy.out)
      obtain ⟨hy3, hy4⟩ := hy34
      have hxl := Lib.hid (lat_of hx.out)
      have hyl := Lib.hid (lat_of hy.out)
      go_wp2_with fail
      have hc' : (wr.alloc (.cells #[.int .i64 0, .int .i64 0] 53)).cell? (ad.add k) = some (.int .i64 x) := (World.cell?_alloc_lt _ _ _ (World.block_lt_of_cell? _ _ hc)).trans hc
      have hd' : (wr.alloc (.cells #[.int .i64 0, .int .i64 0] 53)).cell? (ae.add k) = some (.int .i64 y) := (World.cell?_alloc_lt _ _ _ (World.block_lt_of_cell? _ _ hd)).trans hd
      go_region
      obtain ⟨W, hW⟩ : ∃ W, W = (wr.alloc (.cells #[.int .i64 x, .int .i64 y] 53)).drew := ⟨_, rfl⟩
      rw [← hW]
      have hbW : Below w.heap.size w W := by subst hW; exact (hbr.alloc (by have := hbr.size; omega) _).drew
      have hx0 : W.cell? ⟨wr.heap.size, 0, none⟩ = some (.int .i64 x) := by subst hW; show (wr.alloc _).cell? _ = _; rw [World.cell?_alloc_at _ _ _ _ rfl]; rfl
      have hy0 : W.cell? ⟨wr.heap.size, 1, none⟩ = some (.int .i64 y) := by subst hW; show (wr.alloc _).cell? _ = _; rw [World.cell?_alloc_at _ _ _ _ rfl]; rfl
      have hownW : Own W w.heap.size (some ⟨w.heap.size, 0, none⟩) n n P := by subst hW; exact (hown.alloc _).drew
      have hmW : KMap W Tryd.prog 53 q kv := by subst hW; exact (hm.alloc _).drew
      clear hW hc hd hc' hd' hm hbr
      obtain ⟨g, hg⟩ := pairKey x y ⟨hx1, hx2⟩ ⟨hy1, hy2⟩
      have hkv : Value.agg #[.int .i64 x, .int .i64 y] = pairV L R k := by unfold pairV; rw [hxl.out, hyl.out]
      have Hkv := Lib.hid hkv
      clear hkv
      rcases hmW.look pairKeyed Tryd.underlying87 (zeroBool W) hg with ⟨hlook, hnew⟩ | ⟨j, v, hlook, hj⟩
      · obtain ⟨w3, hput, hm3, hg3⟩ := hmW.push pairKeyed Tryd.underlying87 (val := .bool true) hg hnew
        have hbw3 := hbW.grown hg3 hbW.size (fun j hj => by simp at hj; omega)
        have hc3 := (hA.below hbw3).cellOf hlt hx.out
        have hd3 := (hB.below hbw3).cellOf hlt hy.out
        have hown3 := hownW.kept hg3 (.inr (by show some w.heap.size ≠ some q; simp; omega))
        obtain ⟨z, hz⟩ : ∃ z, P[k]? = some z := ⟨P[k]'(by rw [hown.len]; exact hlt), List.getElem?_eq_getElem _⟩
        have hcell := hown3.cell hz
        have hfree := hown3.free k
        have hb := place_bd (L := L) (R := R) (n := n) (i := k) hle (by rw [hxl.out]; exact ⟨hx3, hx4⟩) (by rw [hyl.out]; exact ⟨hy3, hy4⟩)
        have hpl : placeI L R n k = x * ((n : Int) + 1) + y := by unfold placeI; rw [hxl.out, hyl.out]
        rw [hpl] at hb
        obtain ⟨hb1, hb2⟩ := hb
        have hb3 : 0 ≤ x * ((n : Int) + 1) := Int.mul_nonneg hx3 (by omega)
        have hb4 : x * ((n : Int) + 1) ≤ 18000 := by omega
        have hset := (hown3.stored k (x := x * ((n : Int) + 1) + y) ⟨by omega, by omega⟩).drew
        have hm4 := ((hm3.setCell (p := ⟨w.heap.size, k, none⟩) (by simp; omega) (.int .i64 (x * ((n : Int) + 1) + y))).drew)
        have hbw4 := (hbw3.setCell (p := ⟨w.heap.size, k, none⟩) (Nat.le_refl _) (.int .i64 (x * ((n : Int) + 1) + y))).drew
        have HP' : Hid (∀ j, j < k + 1 → lat (P.set k (x * ((n : Int) + 1) + y)) j = placeI L R n j) := Lib.hid (by
          intro j hj
          by_cases e : j = k
          · subst e
            rw [hpl]
            exact lat_of (by rw [List.getElem?_set_self (List.getElem?_eq_some_iff.1 hz).1])
          · rw [← HP.out j (by omega)]
            unfold lat
            rw [List.getElem?_set_ne (fun h => e h.symm)])
        have HK' : Hid (kv ++ [(Value.agg #[.int .i64 x, .int .i64 y], .bool true)] = kvTo L R (k + 1)) := Lib.hid (by rw [kvTo_succ, HK.out, Hkv.out])
        have HD' : Hid (∀ i j, j < i → i < k + 1 → ¬two L R i j) := Lib.hid (by
          intro i j hji hi htwo
          by_cases e : i = k
          · subst e
            refine hnew (pairV L R j, .bool true) ?_ ?_
            · rw [HK.out]; exact List.mem_map.2 ⟨j, List.mem_range.2 hji, rfl⟩
            · rw [Hkv.out]; exact (pairV_eq.2 htwo).symm
          · exact HD.out i j hji (by omega) htwo)
        clear hpl hz HP HK HD hnew hg3 hownW hmW hbW hbw3 hown3 hm3
        go_wp2_with fail
        go_region
        go_wp2_with fail
        go_roundw
        case rel => exact ⟨k + 1, _, _, by omega, by go_num, hset, hm4, hbw4, HP', HK', HD'⟩
        case measure => simp [intOf]; omega
      · obtain ⟨hjk, e1, rfl⟩ := kvTo_at (HK.out ▸ hj)
        have E1 := Lib.hid e1
        clear e1 hj
        go_wp2_with fail
        go_ret
        refine ⟨false, rfl, ⟨fun h => absurd h (by simp), fun h => absurd ?_ (h.1 k j hjk (by rw [HL.out]; exact hlt))⟩, hbW⟩
        exact pairV_eq.1 (Hkv.out.symm.trans E1.out)
    · have hkn : k = n := by omega
      subst hkn
      have hPb : ∀ j, j < k → 0 ≤ lat P j ∧ lat P j ≤ 18000 := by
        intro j hj
        rw [HP.out j hj]
        obtain ⟨x, hx⟩ : ∃ x, L[j]? = some x := ⟨L[j]'(by rw [HL.out]; exact hj), List.getElem?_eq_getElem _⟩
        obtain ⟨y, hy⟩ : ∃ y, R[j]? = some y := ⟨R[j]'(by rw [HR.out]; exact hj), List.getElem?_eq_getElem _⟩
        exact place_bd hle (by rw [lat_of hx]; exact H4.out.at_ hx) (by rw [lat_of hy]; exact HRb.out y (List.mem_of_getElem? hy))
      have hPc : ∀ j, j < k → ∃ a, a = placeI L R k j ∧ 0 ≤ a ∧ a ≤ 18000 ∧ wr.cell? ((⟨w.heap.size, 0, none⟩ : Addr).add j) = some (.int .i64 a) := by
        intro j hj
        obtain ⟨z, hz⟩ : ∃ z, P[j]? = some z := ⟨P[j]'(by rw [hown.len]; exact hj), List.getElem?_eq_getElem _⟩
        have hb := hPb j hj
        refine ⟨z, by rw [← HP.out j hj, lat_of hz], by rw [← lat_of hz]; exact hb.1, by rw [← lat_of hz]; exact hb.2, ?_⟩
        have := hown.cell hz
        by_cases e : j = 0 <;> simp_all [Addr.add]
      have HPC := Lib.hid hPc
      clear hPc hPb HP hown hm HK hA hB HRb H4
      obtain ⟨wb, hwb⟩ : ∃ wb, wb = wr := ⟨_, rfl⟩
      rw [← hwb] at hbr HPC
      rw [← hwb]
      clear hwb
      obtain ⟨ad, had⟩ : ∃ ad : Addr, ad = ⟨w.heap.size, 0, none⟩ := ⟨_, rfl⟩
      rw [← had] at HPC
      rw [← had]
      clear had
      go_wp2_with fail
      go_loopw [59] (fun vf w2 => ∃ f : Nat, f ≤ 2 ∧ vf = .int .i64 f ∧ Drawn wb w2 ∧ Hid (∀ i j, i < j → j < k → j % 2 = i % 2 → i % 2 < f → apart L R k i j)) (fun vf _ => 2 - (intOf vf).toNat)
      case atStart => exact ⟨0, by omega, rfl, Drawn.refl _, Lib.hid (fun i j _ _ _ h => absurd h (by omega))⟩
      case round =>
        obtain ⟨f, hf2, rfl, hdr, HF⟩ := hrel
        by_cases hf : f < 2
        · go_wp2_with fail
          go_loopw [11] (fun vi w2 => ∃ i : Nat, i % 2 = f ∧ i ≤ k + 1 ∧ vi = .int .i64 i ∧ Drawn wb w2 ∧ Hid (∀ i' j, i' < i → i' < j → j < k → j % 2 = i' % 2 → i' % 2 = f → apart L R k i' j)) (fun vi _ => (k + 2) - (intOf vi).toNat)
          case atStart => exact ⟨f, by omega, by omega, rfl, hdr, Lib.hid (fun i j h _ _ _ h2 => absurd h (by omega))⟩
          case round =>
            clear hdr
            obtain ⟨i, hif, hik, rfl, hdr, HI⟩ := hrel
            have Hif := Lib.hid hif
            clear hif
            by_cases hi : i < k
            · obtain ⟨i1, hi1⟩ : ∃ i1, (i + 1) % k = i1 := ⟨_, rfl⟩
              have hi1k : i1 < k := by subst hi1; exact Nat.mod_lt _ (by omega)
              have hmod : ((i : Int) + 1) % (k : Int) = (i1 : Int) := by subst hi1; simp
              obtain ⟨a, ha, ha1, ha2, ca⟩ := HPC.out i hi
              obtain ⟨b, hb, hb1, hb2, cb⟩ := HPC.out i1 hi1k
              obtain ⟨m, rfl⟩ := hdr
              have Ha := Lib.hid ha
              have Hb := Lib.hid hb
              have Hi1 := Lib.hid hi1
              clear ha hb hi1
              have s1 : (0 : Int) ≤ (i : Int) + 1 := by omega
              have s2 : (i : Int) + 1 ≤ 1000 := by omega
              go_wp2_with fail
              go_upto_region 19 with fail
              go_cut [12, 13] (fun va vb wx => va = .int .i64 a ∧ vb = .int .i64 b ∧ Drawn wb wx)
              case first =>
                go_quiet (fail)
                go_wp2_with fail
                go_meet
                case rel => exact ⟨rfl, rfl, drawn2 _ _ _⟩
              case rest =>
              obtain ⟨rfl, rfl, hd2⟩ := hcut
              obtain ⟨W2, hW2⟩ : ∃ W2, W2 = wc := ⟨_, rfl⟩
              rw [← hW2] at hd2
              rw [← hW2]
              have hd2 := Lib.hid hd2
              clear hW2
              go_upto_region 20 with fail
              go_cut [14, 15] (fun va vb wx => va = .int .i64 (min a b) ∧ vb = .int .i64 (max a b) ∧ wx = W2)
              case first =>
                rcases Int.lt_trichotomy a b with hab | hab | hab
                · have e1 := Lib.hid (show min a b = a by omega)
                  have e2 := Lib.hid (show max a b = b by omega)
                  go_wp2_with fail
                  go_meet
                  case rel => exact ⟨by rw [e1.out], by rw [e2.out], rfl⟩
                · have e1 := Lib.hid (show min a b = b by omega)
                  have e2 := Lib.hid (show max a b = b by omega)
                  subst hab
                  go_wp2_with fail
                  go_meet
                  case rel => exact ⟨by rw [e1.out], by rw [e2.out], rfl⟩
                · have e1 := Lib.hid (show min a b = b by omega)
                  have e2 := Lib.hid (show max a b = a by omega)
                  go_wp2_with fail
                  go_meet
                  case rel => exact ⟨by rw [e1.out], by rw [e2.out], rfl⟩
              case rest =>
                obtain ⟨rfl, rfl, rfl⟩ := hcut
                obtain ⟨lo, hlo⟩ : ∃ lo, lo = min a b := ⟨_, rfl⟩
                obtain ⟨hi', hhi⟩ : ∃ hi', hi' = max a b := ⟨_, rfl⟩
                rw [← hlo, ← hhi]
                have Hlo := Lib.hid hlo
                have Hhi := Lib.hid hhi
                clear hlo hhi
                go_wp2_with fail
                go_loopw [16] (fun vj w2 => ∃ j : Nat, j % 2 = i % 2 ∧ i < j ∧ j ≤ k + 1 ∧ vj = .int .i64 j ∧ Drawn wb w2 ∧ Hid (∀ j', i < j' → j' < j → j' < k → j' % 2 = i % 2 → apart L R k i j')) (fun vj _ => (k + 2) - (intOf vj).toNat)
                case atStart => exact ⟨i + 2, by omega, by omega, by omega, by go_num, hd2.out, Lib.hid (fun j' h1 h2 _ h3 => absurd h2 (by omega))⟩
                case round =>
                  obtain ⟨j, hjp, hij, hjk, rfl, ⟨m2, rfl⟩, HJ⟩ := hrel
                  by_cases hj : j < k
                  · obtain ⟨j1, hj1⟩ : ∃ j1, (j + 1) % k = j1 := ⟨_, rfl⟩
                    have hj1k : j1 < k := by subst hj1; exact Nat.mod_lt _ (by omega)
                    have hmod2 : ((j : Int) + 1) % (k : Int) = (j1 : Int) := by subst hj1; simp
                    obtain ⟨p, hp, hp1, hp2, cp⟩ := HPC.out j hj
                    obtain ⟨r, hr, hr1, hr2, cr⟩ := HPC.out j1 hj1k
                    have Hap : Hid (apart L R k i j ↔ ((lo < p ∧ p < hi') ↔ (lo < r ∧ r < hi'))) := Lib.hid (by
                      unfold apart inn
                      rw [Hi1.out, hj1, ← Ha.out, ← Hb.out, ← hp, ← hr, ← Hlo.out, ← Hhi.out])
                    have s3 : (0 : Int) ≤ (j : Int) + 1 := by omega
                    have s4 : (j : Int) + 1 ≤ 1000 := by omega
                    have tri : ∀ x : Int, x ≤ lo ∨ (lo < x ∧ x < hi') ∨ (lo < x ∧ hi' ≤ x ∧ decide (x < hi') = false) := fun x => by simp only [decide_eq_false_iff_not]; omega
                    have t1 := tri p
                    have t2 := tri r
                    have yes : Hid (apart L R k i j → ∀ j', i < j' → j' < j + 2 → j' < k → j' % 2 = i % 2 → apart L R k i j') := Lib.hid (by
                      intro h j' h1 h2 h3 h4
                      by_cases e : j' = j
                      · subst e; exact h
                      · exact HJ.out j' h1 (by omega) h3 h4)
                    have no : Hid (¬apart L R k i j → (false = true ↔ DrawnP L R)) := Lib.hid (by
                      intro h
                      refine ⟨fun h2 => absurd h2 (by simp), fun h2 => absurd (h2.2 i j hij (by rw [HL.out]; exact hj) hjp) ?_⟩
                      rw [HL.out]
                      exact h)
                    clear hj1 hp hr tri HJ
                    rcases t1 with t1 | ⟨t1, t1'⟩ | ⟨t1, t1', d1⟩ <;> rcases t2 with t2 | ⟨t2, t2'⟩ | ⟨t2, t2', d2⟩ <;>
                    (go_wp2_with (fail)
                     go_quiet (fail)
                     go_wp2_with (fail)
                     first
                     | (fail_if_success (have : (lo < p ∧ p < hi') ↔ (lo < r ∧ r < hi') := by omega)
                        go_ret
                        refine ⟨false, rfl, no.out (fun h => absurd (Hap.out.1 h) (by omega)), ?_⟩
                        first | exact below_drewN hbr _ | exact below_drewN (below_drewN hbr _) _)
                     | (go_roundw
                        case rel => exact ⟨j + 2, by omega, by omega, by omega, by go_num, by first | exact drawn1 _ _ | exact drawn2 _ _ _, Lib.hid (yes.out (Hap.out.2 (by omega)))⟩
                        case measure => simp [intOf]; omega))
                  · go_wp2_with fail
                    go_roundw
                    case rel => exact ⟨i + 2, by have := Hif.out; omega, by omega, by go_num, drawn1 _ _, Lib.hid (fun i' j' h1 h2 h3 h4 h5 => by
                      by_cases e : i' = i
                      · subst e; exact HJ.out j' h2 (by omega) h3 h4
                      · have := Hif.out
                        exact HI.out i' j' (by omega) h2 h3 h4 h5)⟩
                    case measure => simp [intOf]; omega
            · go_wp2_with fail
              go_roundw
              case rel => exact ⟨f + 1, by omega, by go_num, hdr, Lib.hid (fun i' j' h2 h3 h4 h5 => by
                by_cases e : i' % 2 = f
                · exact HI.out i' j' (by omega) h2 h3 h4 e
                · exact HF.out i' j' h2 h3 h4 (by omega))⟩
              case measure => simp [intOf]; omega
        · go_wp2_with fail
          go_ret
          obtain ⟨m, rfl⟩ := hdr
          refine ⟨true, rfl, ⟨fun _ => ⟨fun i j h1 h2 => HD.out i j h1 (by rw [← HL.out]; exact h2), fun i j h1 h2 h3 => ?_⟩, fun _ => rfl⟩, below_drewN hbr _⟩
          rw [HL.out] at h2 ⊢
          exact HF.out i j h1 h2 h3 (by omega)
end Go.Proofs.YtpdkonpnhalecaaDoor
