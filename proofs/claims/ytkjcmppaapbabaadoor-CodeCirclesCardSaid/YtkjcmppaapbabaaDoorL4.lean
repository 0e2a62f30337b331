/-
  Contract of the document's Axis. Conditions: the code's letters read.
-/
import Derived.Test.YtkjcmppaapbabaaDoorOwnG
import Derived.Test.YtkjcmppaapbabaaDoorK4
import Derived.StillTailTactics
namespace Go.Proofs.YtkjcmppaapbabaaDoor
open Go.RowKit

/-- Where a new pass goes. -/
theorem insX_split {L : List Lt} {i : Nat} : ∀ {X : List Nat} {k : Nat}, k ≤ X.length → (∀ j, j < k → lftB (la L (xat X j)) (la L i) = true) → (k < X.length → lftB (la L (xat X k)) (la L i) = false) → insX L i X = X.take k ++ [i] ++ X.drop k
  | [], k, hk, _, _ => by simp at hk; subst hk; rfl
  | x :: X, 0, _, _, h => by
    have := h (by simp)
    unfold insX
    rw [if_neg (by simpa [xat] using this)]
    rfl
  | x :: X, k + 1, hk, h1, h2 => by
    have h0 := h1 0 (by omega)
    unfold insX
    rw [if_pos (by simpa [xat] using h0), insX_split (k := k) (by simpa using hk) (fun j hj => by have := h1 (j + 1) (by omega); simpa [xat] using this) (fun hl => by have := h2 (by simpa using hl); simpa [xat] using this)]
    simp
theorem axTo_le (L : List Lt) (k : Nat) : (axTo L k).length ≤ k := by rw [axTo_len]; exact pN_le L k
set_option maxRecDepth 100000 in
set_option maxHeartbeats 1600000 in
theorem ref_Axis (K : Int) (A : Option Addr) (n c : Nat) (L : List Lt) (w : World) (hA : Lets w A n L) :
    Calls Tryd.prog 83 #[.agg #[.int .i64 K, .slice A n c]] w fun e w' => ∃ A' c', e = .returned (.slice A' (axL L).length c') ∧ Own w' w.heap.size A' (axL L).length c' (natI (axL L)) ∧ Below w.heap.size w w' := by
  have hle := hA.le
  have HL := Lib.hid hA.len
  have hbx := Boxed.refl w K A n c
  go_enter Tryd.func83, Tryd.ntmps83
  go_wp2_with fail
  go_loopw [3, 4] (fun v3 v4 wr => ∃ (k m : Nat) (X : List Nat) (A1 : Option Addr) (c1 : Nat), k ≤ n ∧ m ≤ k ∧ v4 = .int .i64 k ∧ v3 = .slice A1 m c1 ∧ Own wr (w.heap.size + 1) A1 m c1 (natI X) ∧ Boxed w wr K A n c ∧ Hid (X = axTo L k)) (fun _ v4 _ => n - (intOf v4).toNat)
  case atStart => exact ⟨0, 0, [], none, 0, Nat.zero_le _, Nat.zero_le _, rfl, rfl, Own.nil _ _, hbx, Lib.hid rfl⟩
  case round =>
    obtain ⟨k, m, X, A1, c1, hk, hm, rfl, rfl, hown, hb, HX⟩ := hrel
    have hc0 := hb.c0
    have hc1 := hb.c1
    by_cases hlt : k < n
    · obtain ⟨g, o, rfl, hg, hx, hok⟩ := (hA.below hb.below).at_ hlt
      obtain ⟨h0, h1, h2, h3, h4, h5⟩ := hx
      by_cases hp : (la L k).kind = 1
      · have hp1 : ((la L k).kind != 1) = false := by simpa using hp
        have HP := Lib.hid hp
        clear hp
        go_wp2_with fail
        clear hp1
        obtain ⟨wo, rfl⟩ : ∃ wo : World, wo = wr := ⟨_, rfl⟩
        go_loopw [5] (fun v5 wi => ∃ j : Nat, j ≤ m ∧ v5 = .int .i64 j ∧ Below wo.heap.size wo wi ∧ Hid (∀ t, t < j → lftB (la L (xat X t)) (la L k) = true)) (fun v5 _ => m - (intOf v5).toNat)
        case atStart => exact ⟨0, Nat.zero_le _, rfl, Below.refl _ _, Lib.hid (fun t ht => by omega)⟩
        case round =>
          obtain ⟨j, hj, rfl, hbi, hall⟩ := hrel
          have hown_i := hown.ints
          have hmX : X.length = m := by have := hown.len; rwa [natI_len] at this
          by_cases hgo : j < m ∧ lftB (la L (xat X j)) (la L k) = true
          · obtain ⟨hjm, hl⟩ := hgo
            have hjX : j < X.length := by omega
            obtain ⟨ad, y, hA1, hy, _, _, hcy⟩ := (hown_i.below hbi).at_ hjm
            obtain ⟨y', hy', hyn, hyx⟩ : ∃ y' : Nat, y = (y' : Int) ∧ y' < n ∧ y' = xat X j := by
              have h1 := hy.out
              rw [natI_at hjX] at h1
              have hmem : xat X j ∈ X := by unfold xat; rw [List.getElem?_eq_getElem hjX]; exact List.getElem_mem hjX
              have hlt2 := ((mem_axTo L _ k).1 (by rw [← HX.out]; exact hmem)).1
              exact ⟨xat X j, (Option.some.inj h1).symm, by omega, rfl⟩
            subst hy' hA1
            obtain ⟨y0, y1, y2, y3, y4, y5⟩ := ((hA.below hb.below).below hbi |>.also hyn).1
            obtain ⟨x0, x1, x2, x3, x4, x5⟩ := ((hA.below hb.below).below hbi |>.also hlt).1
            have hci0 := (hb.more hbi).c0
            have hci1 := (hb.more hbi).c1
            have d1 : decide ((j : Int) < (m : Int)) = true := by simp; omega
            have b1 : (0 : Int) ≤ (y' : Int) := by omega
            have b2 : (y' : Int) < (n : Int) := by omega
            have b3 : (j : Int) < (m : Int) := by omega
            rw [← hyx] at hl
            have HY := Lib.hid hyx
            have HLF := Lib.hid hl
            have hall2 := Lib.hid (show ∀ t, t < j + 1 → lftB (la L (xat X t)) (la L k) = true from fun t ht => by
              rcases Nat.lt_or_ge t j with h | h
              · exact hall.out t h
              · have : t = j := by omega
                subst this
                rw [← HY.out]; exact HLF.out)
            clear hy hyx hl hall hmX
            go_wp2_with fail
            go_still_tail 18, (by kernel_rfl)
            change wpList _ _ _ _ _ wr.drew
            have hbi2 := hbi.drew
            clear hbi
            generalize wr.drew = w2 at hbi2 ⊢
            go_wp2_with fail
            refine (ref_left (la L y') (la L k) w2).mono ?_
            rintro e w3 ⟨rfl, hb3⟩
            rw [HLF.out]
            have hbi3 := below_chain hbi2 hb3 hbi2.size
            clear hbi2 hb3
            go_wp2_with fail
            go_roundw
            case rel => exact ⟨j + 1, by omega, by go_num, hbi3, hall2⟩
            case measure => simp [intOf]; omega
          · have HI := Lib.hid (show X.take j ++ [k] ++ X.drop j = axTo L (k + 1) by
              have hs : axTo L (k + 1) = insX L k X := by
                rw [HX.out]
                show (if isP (la L k) then _ else _) = _
                rw [isP_t HP.out]; rfl
              rw [hs, insX_split (by omega) hall.out (fun h => by
                cases hq : lftB (la L (xat X j)) (la L k) with
                | false => rfl
                | true => exact absurd ⟨by omega, hq⟩ hgo)])
            have hki : I64 (k : Int) := ⟨by omega, by omega⟩
            have hk64 := Lib.hid hki
            clear hki
            by_cases hjm : j < m
            · have hjX : j < X.length := by omega
              have hl : lftB (la L (xat X j)) (la L k) = false := by
                cases hq : lftB (la L (xat X j)) (la L k) with
                | false => rfl
                | true => exact absurd ⟨by omega, hq⟩ hgo
              obtain ⟨ad, y, hA1, hy, _, _, hcy⟩ := (hown_i.below hbi).at_ hjm
              obtain ⟨y', hy', hyn, hyx⟩ : ∃ y' : Nat, y = (y' : Int) ∧ y' < n ∧ y' = xat X j := by
                have h1 := hy.out
                rw [natI_at hjX] at h1
                have hmem : xat X j ∈ X := by unfold xat; rw [List.getElem?_eq_getElem hjX]; exact List.getElem_mem hjX
                have hlt2 := ((mem_axTo L _ k).1 (by rw [← HX.out]; exact hmem)).1
                exact ⟨xat X j, (Option.some.inj h1).symm, by omega, rfl⟩
              subst hy' hA1
              obtain ⟨y0, y1, y2, y3, y4, y5⟩ := ((hA.below hb.below).below hbi |>.also hyn).1
              obtain ⟨x0, x1, x2, x3, x4, x5⟩ := ((hA.below hb.below).below hbi |>.also hlt).1
              have hci0 := (hb.more hbi).c0
              have hci1 := (hb.more hbi).c1
              have d1 : decide ((j : Int) < (m : Int)) = true := by simp; omega
              have b1 : (0 : Int) ≤ (y' : Int) := by omega
              have b2 : (y' : Int) < (n : Int) := by omega
              have b3 : (j : Int) < (m : Int) := by omega
              rw [← hyx] at hl
              have HLF := Lib.hid hl
              clear hy hyx hl hall hmX hgo hjm
              go_wp2_with fail
              go_still_tail 18, (by kernel_rfl)
              change wpList _ _ _ _ _ wr.drew
              have hbi2 := hbi.drew
              clear hbi
              generalize wr.drew = w2 at hbi2 ⊢
              go_wp2_with fail
              refine (ref_left (la L y') (la L k) w2).mono ?_
              rintro e wz ⟨rfl, hb3⟩
              rw [HLF.out]
              have hbz := below_chain hbi2 hb3 hbi2.size
              clear hbi2 hb3
              go_wp2_with fail
              obtain ⟨A1, hA1⟩ : ∃ A1, A1 = some ad := ⟨_, rfl⟩
              rw [← hA1] at hown hown_i ⊢
              clear hA1 y0 y1 y2 y3 y4 y5 x0 x1 x2 x3 x4 x5 hci0 hci1 hcy
              have hownz := hown.below hbz
              have hiz := hownz.ints
              have hcapz := hownz.cap
              have hbb := hb.more hbz
              have hszz := hbb.size
              have e0 : (0 : Int) ≤ (j : Int) := by omega
              have e1 : (j : Int) ≤ (m : Int) := by omega
              have e2 : (j : Int) ≤ (c1 : Int) := by omega
              clear hown hown_i hb h0 h1 h2 h3 h4 h5 hc0 hc1 hbz hbx
              go_region_held3 (fun wx => Below wz.heap.size wz wx) (first | exact (Below.refl _ _).drew | exact Below.trans (by assumption) (by assumption) | exact Below.alloc (by assumption) (Below.size (by assumption)) _)
                (first
                  | ((refine stepS2 (base := wz.heap.size) (M := (natI X).take j) rfl (.const (.slice none 0 0)) (.tmp 44) (by rfl) (by rfl) (by rfl) (by rfl) (Own.nil _ _) ((hiz.to (by omega)).below (by assumption)) j (by omega) (by omega) (Below.size (by assumption)) ?_; intro A2 c2 w2 hown2 hb2 hg2 hl2))
                  | ((refine stepS2 (base := wz.heap.size) (M := [(k : Int)]) rfl (.tmp 45) (.tmp 47) (by rfl) (by rfl) (by rfl) (by rfl) (by repeat (first | with_reducible exact hown2 | with_reducible apply Own.drew | with_reducible apply Own.alloc)) (by repeat (first | with_reducible apply Ints.drewD | ((with_reducible refine Ints.oneG hk64.out ?_ ?_ ?_ ?_); rfl; rfl; rfl; focus (simp; done)) | with_reducible apply Ints.alloc | ((with_reducible refine Ints.growG hg2 ?_ ?_); focus (intro a ha; cases ha; first | (simp [blk]; done) | (simp [blk]; omega))))) (j + 1) (by omega) (by omega) (Below.size (by assumption)) ?_; intro A3 c3 w3 hown3 hb3 hg3 hl3))
                  | ((refine stepS2 (base := wz.heap.size) (M := (natI X).drop j) rfl (.tmp 48) (.tmp 51) (by rfl) (by rfl) (by rfl) (by rfl) (by repeat (first | with_reducible exact hown3 | with_reducible apply Own.drew | with_reducible apply Own.alloc)) ((hiz.from (c := c1) (by omega) hcapz).below (by assumption)) (m + 1) (by omega) (by omega) (Below.size (by assumption)) ?_; intro A4 c4 w4 hown4 hb4 hg4 hl4)))
              all_goals
                have hbf := hbb.more (show Below wz.heap.size wz _ by assumption)
                clear hb2 hb3 hb4 hg2 hg3 hg4 hl2 hl3 hl4 hown2 hown3 hownz hiz hbb
                go_wp2_with fail
                go_roundw
                case rel => exact ⟨k + 1, m + 1, X.take j ++ [k] ++ X.drop j, A4, c4, by omega, by omega, by go_num, rfl, by simpa [natI, List.map_take, List.map_drop] using hown4.mono hszz, hbf, HI⟩
                case measure => simp [intOf]; omega
            · have d1 : decide (j < m) = false := by simp; omega
              clear hall hmX hgo hjm
              go_wp2_with fail
              go_quiet (fail)
              have hbz : Below wo.heap.size wo (wr.drewN nq) := below_drewN hbi _
              generalize wr.drewN nq = wz at hbz ⊢
              clear hbi
              go_wp2_with fail
              have hownz := hown.below hbz
              have hiz := hownz.ints
              have hcapz := hownz.cap
              have hbb := hb.more hbz
              have hszz := hbb.size
              have e0 : (0 : Int) ≤ (j : Int) := by omega
              have e1 : (j : Int) ≤ (m : Int) := by omega
              have e2 : (j : Int) ≤ (c1 : Int) := by omega
              clear hown hown_i hb h0 h1 h2 h3 h4 h5 hc0 hc1 hbz hbx
              go_region_held3 (fun wx => Below wz.heap.size wz wx) (first | exact (Below.refl _ _).drew | exact Below.trans (by assumption) (by assumption) | exact Below.alloc (by assumption) (Below.size (by assumption)) _)
                (first
                  | ((refine stepS2 (base := wz.heap.size) (M := (natI X).take j) rfl (.const (.slice none 0 0)) (.tmp 44) (by rfl) (by rfl) (by rfl) (by rfl) (Own.nil _ _) ((hiz.to (by omega)).below (by assumption)) j (by omega) (by omega) (Below.size (by assumption)) ?_; intro A2 c2 w2 hown2 hb2 hg2 hl2))
                  | ((refine stepS2 (base := wz.heap.size) (M := [(k : Int)]) rfl (.tmp 45) (.tmp 47) (by rfl) (by rfl) (by rfl) (by rfl) (by repeat (first | with_reducible exact hown2 | with_reducible apply Own.drew | with_reducible apply Own.alloc)) (by repeat (first | with_reducible apply Ints.drewD | ((with_reducible refine Ints.oneG hk64.out ?_ ?_ ?_ ?_); rfl; rfl; rfl; focus (simp; done)) | with_reducible apply Ints.alloc | ((with_reducible refine Ints.growG hg2 ?_ ?_); focus (intro a ha; cases ha; first | (simp [blk]; done) | (simp [blk]; omega))))) (j + 1) (by omega) (by omega) (Below.size (by assumption)) ?_; intro A3 c3 w3 hown3 hb3 hg3 hl3))
                  | ((refine stepS2 (base := wz.heap.size) (M := (natI X).drop j) rfl (.tmp 48) (.tmp 51) (by rfl) (by rfl) (by rfl) (by rfl) (by repeat (first | with_reducible exact hown3 | with_reducible apply Own.drew | with_reducible apply Own.alloc)) ((hiz.from (c := c1) (by omega) hcapz).below (by assumption)) (m + 1) (by omega) (by omega) (Below.size (by assumption)) ?_; intro A4 c4 w4 hown4 hb4 hg4 hl4)))
              all_goals
                have hbf := hbb.more (show Below wz.heap.size wz _ by assumption)
                clear hb2 hb3 hb4 hg2 hg3 hg4 hl2 hl3 hl4 hown2 hown3 hownz hiz hbb
                go_wp2_with fail
                go_roundw
                case rel => exact ⟨k + 1, m + 1, X.take j ++ [k] ++ X.drop j, A4, c4, by omega, by omega, by go_num, rfl, by simpa [natI, List.map_take, List.map_drop] using hown4.mono hszz, hbf, HI⟩
                case measure => simp [intOf]; omega
      · have hs := Lib.hid (show X = axTo L (k + 1) by rw [HX.out]; show axTo L k = if isP (la L k) then _ else _; rw [isP_f hp]; rfl)
        have hp' : ((la L k).kind != 1) = true := by simpa using hp
        clear HX
        go_wp2_with fail
        go_roundw
        case rel => exact ⟨k + 1, m, X, A1, c1, by omega, by omega, by go_num, rfl, hown, hb, hs⟩
        case measure => simp [intOf]; omega
    · have hkn : k = n := by omega
      subst hkn
      have hX : X = axL L := by rw [HX.out]; unfold axL; rw [HL.out]
      have hmX : m = (axL L).length := by rw [← hX, ← natI_len, hown.len]
      subst hmX
      rw [hX] at hown
      have HX2 := Lib.hid hX
      clear hX HX
      go_wp2_with fail
      go_ret
      exact ⟨_, _, rfl, hown.mono (by omega), hb.below⟩
end Go.Proofs.YtkjcmppaapbabaaDoor
