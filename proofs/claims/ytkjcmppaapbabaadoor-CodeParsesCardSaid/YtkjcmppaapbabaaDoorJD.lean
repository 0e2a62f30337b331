/-
  Contract of the document's Axis. Conditions: the code's letters read.
  Contract of the document's Turn: the step to the left. Conditions: the code's letters read and are well formed; the axis reads.
  A map that the call itself has made, as the list of its entries: the word 'KMap', over any program and key type. No condition.
  The map of visits: its entries as a list of names; lookups, stores. No condition.
-/
import Derived.Test.YtkjcmppaapbabaaDoorJC
import Derived.Test.YtkjcmppaapbabaaDoorJA
import Derived.StillTailTactics
import Derived.Maps.OwnOps
import Derived.DeepKeys4
import Derived.Maps.OwnSet
namespace Go.Proofs.YtkjcmppaapbabaaDoor
section
open Go.RowKit

/-- Where a new pass goes. -/
theorem insX_split {L : List Lt} {i : Nat} : ∀ {X : List Nat} {k : Nat}, k ≤ X.length → (∀ j, j < k → lftB (la L (xat X j)) (la L i) = true) → (k < X.length → lftB (la L (xat X k)) (la L i) = false) → insX L i X = X.take k ++ [i] ++ X.drop k
  | [], k, hk, _, _ => by simp at hk; subst hk; rfl
  | x :: X, 0, _, _, h => by
    have := h (by simp)
    unfold insX
    rw [if_neg (by simpa [xat] using this)]
    rfl
  | x :: X, k + 1, hk, h1, h2 => by
    have h0 := h1 0 (by omega)
    unfold insX
    rw [if_pos (by simpa [xat] using h0), insX_split (k := k) (by simpa using hk) (fun j hj => by have := h1 (j + 1) (by omega); simpa [xat] using this) (fun hl => by have := h2 (by simpa using hl); simpa [xat] using this)]
    simp
theorem axTo_le (L : List Lt) (k : Nat) : (axTo L k).length ≤ k := by rw [axTo_len]; exact pN_le L k
set_option maxRecDepth 100000 in
set_option maxHeartbeats 1600000 in
theorem ref_Axis (K : Int) (A : Option Addr) (n c : Nat) (L : List Lt) (w : World) (hA : Lets w A n L) :
    Calls Tryd.prog 83 #[.agg #[.int .i64 K, .slice A n c]] w fun e w' => ∃ A' c', e = .returned (.slice A' (axL L).length c') ∧ Own w' w.heap.size A' (axL L).length c' (natI (axL L)) ∧ Below w.heap.size w w' := by
  have hle := hA.le
  have HL := Lib.hid hA.len
  have hbx := Boxed.refl w K A n c
  go_enter Tryd.func83, Tryd.ntmps83
  go_wp2_with fail
  go_loopw [3, 4] (fun v3 v4 wr => ∃ (k m : Nat) (X : List Nat) (A1 : Option Addr) (c1 : Nat), k ≤ n ∧ m ≤ k ∧ v4 = .int .i64 k ∧ v3 = .slice A1 m c1 ∧ Own wr (w.heap.size + 1) A1 m c1 (natI X) ∧ Boxed w wr K A n c ∧ Hid (X = axTo L k)) (fun _ v4 _ => n - (intOf v4).toNat)
  case atStart => exact ⟨0, 0, [], none, 0, Nat.zero_le _, Nat.zero_le _, rfl, rfl, Own.nil _ _, hbx, Lib.hid rfl⟩
  case round =>
    obtain ⟨k, m, X, A1, c1, hk, hm, rfl, rfl, hown, hb, HX⟩ := hrel
    have hc0 := hb.c0
    have hc1 := hb.c1
    by_cases hlt : k < n
    · obtain ⟨g, o, rfl, hg, hx, hok⟩ := (hA.below hb.below).at_ hlt
      obtain ⟨h0, h1, h2, h3, h4, h5⟩ := hx
      by_cases hp : (la L k).kind = 1
      · have hp1 : ((la L k).kind != 1) = false := by simpa using hp
        have HP := Lib.hid hp
        clear hp
        go_wp2_with fail
        clear hp1
        obtain ⟨wo, rfl⟩ : ∃ wo : World, wo = wr := ⟨_, rfl⟩
        go_loopw [5] (fun v5 wi => ∃ j : Nat, j ≤ m ∧ v5 = .int .i64 j ∧ Below wo.heap.size wo wi ∧ Hid (∀ t, t < j → lftB (la L (xat X t)) (la L k) = true)) (fun v5 _ => m - (intOf v5).toNat)
        case atStart => exact ⟨0, Nat.zero_le _, rfl, Below.refl _ _, Lib.hid (fun t ht => by omega)⟩
        case round =>
          obtain ⟨j, hj, rfl, hbi, hall⟩ := hrel
          have hown_i := hown.ints
          have hmX : X.length = m := by have := hown.len; rwa [natI_len] at this
          by_cases hgo : j < m ∧ lftB (la L (xat X j)) (la L k) = true
          · obtain ⟨hjm, hl⟩ := hgo
            have hjX : j < X.length := by omega
            obtain ⟨ad, y, hA1, hy, _, _, hcy⟩ := (hown_i.below hbi).at_ hjm
            obtain ⟨y', hy', hyn, hyx⟩ : ∃ y' : Nat, y = (y' : Int) ∧ y' < n ∧ y' = xat X j := by
              have h1 := hy.out
              rw [natI_at hjX] at h1
              have hmem : xat X j ∈ X := by unfold xat; rw [List.getElem?_eq_getElem hjX]; exact List.getElem_mem hjX
              have hlt2 := ((mem_axTo L _ k).1 (by rw [← HX.out]; exact hmem)).1
              exact ⟨xat X j, (Option.some.inj h1).symm, by omega, rfl⟩
            subst hy' hA1
            obtain ⟨y0, y1, y2, y3, y4, y5⟩ := ((hA.below hb.below).below hbi |>.also hyn).1
            obtain ⟨x0, x1, x2, x3, x4, x5⟩ := ((hA.below hb.below).below hbi |>.also hlt).1
            have hci0 := (hb.more hbi).c0
            have hci1 := (hb.more hbi).c1
            have d1 : decide ((j : Int) < (m : Int)) = true := by simp; omega
            have b1 : (0 : Int) ≤ (y' : Int) := by omega
            have b2 : (y' : Int) < (n : Int) := by omega
            have b3 : (j : Int) < (m : Int) := by omega
            rw [← hyx] at hl
            have HY := Lib.hid hyx
            have HLF := Lib.hid hl
            have hall2 := Lib.hid (show ∀ t, t < j + 1 → lftB (la L (xat X t)) (la L k) = true from fun t ht => by
              rcases Nat.lt_or_ge t j with h | h
              · exact hall.out t h
              · have : t = j := by omega
                subst this
                rw [← HY.out]; exact HLF.out)
            clear hy hyx hl hall hmX
            go_wp2_with fail
            go_still_tail 18, (by kernel_rfl)
            change wpList _ _ _ _ _ wr.drew
            have hbi2 := hbi.drew
            clear hbi
            generalize wr.drew = w2 at hbi2 ⊢
            go_wp2_with fail
            refine (ref_left (la L y') (la L k) w2).mono ?_
            rintro e w3 ⟨rfl, hb3⟩
            rw [HLF.out]
            have hbi3 := below_chain hbi2 hb3 hbi2.size
            clear hbi2 hb3
            go_wp2_with fail
            go_roundw
            case rel => exact ⟨j + 1, by omega, by go_num, hbi3, hall2⟩
            case measure => simp [intOf]; omega
          · have HI := Lib.hid (show X.take j ++ [k] ++ X.drop j = axTo L (k + 1) by
              have hs : axTo L (k + 1) = insX L k X := by
                rw [HX.out]
                show (if isP (la L k) then _ else _) = _
                rw [isP_t HP.out]; rfl
              rw [hs, insX_split (by omega) hall.out (fun h => by
                cases hq : lftB (la L (xat X j)) (la L k) with
                | false => rfl
                | true => exact absurd ⟨by omega, hq⟩ hgo)])
            have hki : I64 (k : Int) := ⟨by omega, by omega⟩
            have hk64 := Lib.hid hki
            clear hki
            by_cases hjm : j < m
            · have hjX : j < X.length := by omega
              have hl : lftB (la L (xat X j)) (la L k) = false := by
                cases hq : lftB (la L (xat X j)) (la L k) with
                | false => rfl
                | true => exact absurd ⟨by omega, hq⟩ hgo
              obtain ⟨ad, y, hA1, hy, _, _, hcy⟩ := (hown_i.below hbi).at_ hjm
              obtain ⟨y', hy', hyn, hyx⟩ : ∃ y' : Nat, y = (y' : Int) ∧ y' < n ∧ y' = xat X j := by
                have h1 := hy.out
                rw [natI_at hjX] at h1
                have hmem : xat X j ∈ X := by unfold xat; rw [List.getElem?_eq_getElem hjX]; exact List.getElem_mem hjX
                have hlt2 := ((mem_axTo L _ k).1 (by rw [← HX.out]; exact hmem)).1
                exact ⟨xat X j, (Option.some.inj h1).symm, by omega, rfl⟩
              subst hy' hA1
              obtain ⟨y0, y1, y2, y3, y4, y5⟩ := ((hA.below hb.below).below hbi |>.also hyn).1
              obtain ⟨x0, x1, x2, x3, x4, x5⟩ := ((hA.below hb.below).below hbi |>.also hlt).1
              have hci0 := (hb.more hbi).c0
              have hci1 := (hb.more hbi).c1
              have d1 : decide ((j : Int) < (m : Int)) = true := by simp; omega
              have b1 : (0 : Int) ≤ (y' : Int) := by omega
              have b2 : (y' : Int) < (n : Int) := by omega
              have b3 : (j : Int) < (m : Int) := by omega
              rw [← hyx] at hl
              have HLF := Lib.hid hl
              clear hy hyx hl hall hmX hgo hjm
              go_wp2_with fail
              go_still_tail 18, (by kernel_rfl)
              change wpList _ _ _ _ _ wr.drew
              have hbi2 := hbi.drew
              clear hbi
              generalize wr.drew = w2 at hbi2 ⊢
              go_wp2_with fail
              refine (ref_left (la L y') (la L k) w2).mono ?_
              rintro e wz ⟨rfl, hb3⟩
              rw [HLF.out]
              have hbz := below_chain hbi2 hb3 hbi2.size
              clear hbi2 hb3
              go_wp2_with fail
              obtain ⟨A1, hA1⟩ : ∃ A1, A1 = some ad := ⟨_, rfl⟩
              rw [← hA1] at hown hown_i ⊢
              clear hA1 y0 y1 y2 y3 y4 y5 x0 x1 x2 x3 x4 x5 hci0 hci1 hcy
              have hownz := hown.below hbz
              have hiz := hownz.ints
              have hcapz := hownz.cap
              have hbb := hb.more hbz
              have hszz := hbb.size
              have e0 : (0 : Int) ≤ (j : Int) := by omega
              have e1 : (j : Int) ≤ (m : Int) := by omega
              have e2 : (j : Int) ≤ (c1 : Int) := by omega
              clear hown hown_i hb h0 h1 h2 h3 h4 h5 hc0 hc1 hbz hbx
              go_region_held3 (fun wx => Below wz.heap.size wz wx) (first | exact (Below.refl _ _).drew | exact Below.trans (by assumption) (by assumption) | exact Below.alloc (by assumption) (Below.size (by assumption)) _)
                (first
                  | ((refine stepS2 (base := wz.heap.size) (M := (natI X).take j) rfl (.const (.slice none 0 0)) (.tmp 44) (by rfl) (by rfl) (by rfl) (by rfl) (Own.nil _ _) ((hiz.to (by omega)).below (by assumption)) j (by omega) (by omega) (Below.size (by assumption)) ?_; intro A2 c2 w2 hown2 hb2 hg2 hl2))
                  | ((refine stepS2 (base := wz.heap.size) (M := [(k : Int)]) rfl (.tmp 45) (.tmp 47) (by rfl) (by rfl) (by rfl) (by rfl) (by repeat (first | with_reducible exact hown2 | with_reducible apply Own.drew | with_reducible apply Own.alloc)) (by repeat (first | with_reducible apply Ints.drewD | ((with_reducible refine Ints.oneG hk64.out ?_ ?_ ?_ ?_); rfl; rfl; rfl; focus (simp; done)) | with_reducible apply Ints.alloc | ((with_reducible refine Ints.growG hg2 ?_ ?_); focus (intro a ha; cases ha; first | (simp [blk]; done) | (simp [blk]; omega))))) (j + 1) (by omega) (by omega) (Below.size (by assumption)) ?_; intro A3 c3 w3 hown3 hb3 hg3 hl3))
                  | ((refine stepS2 (base := wz.heap.size) (M := (natI X).drop j) rfl (.tmp 48) (.tmp 51) (by rfl) (by rfl) (by rfl) (by rfl) (by repeat (first | with_reducible exact hown3 | with_reducible apply Own.drew | with_reducible apply Own.alloc)) ((hiz.from (c := c1) (by omega) hcapz).below (by assumption)) (m + 1) (by omega) (by omega) (Below.size (by assumption)) ?_; intro A4 c4 w4 hown4 hb4 hg4 hl4)))
              all_goals
                have hbf := hbb.more (show Below wz.heap.size wz _ by assumption)
                clear hb2 hb3 hb4 hg2 hg3 hg4 hl2 hl3 hl4 hown2 hown3 hownz hiz hbb
                go_wp2_with fail
                go_roundw
                case rel => exact ⟨k + 1, m + 1, X.take j ++ [k] ++ X.drop j, A4, c4, by omega, by omega, by go_num, rfl, by simpa [natI, List.map_take, List.map_drop] using hown4.mono hszz, hbf, HI⟩
                case measure => simp [intOf]; omega
            · have d1 : decide (j < m) = false := by simp; omega
              clear hall hmX hgo hjm
              go_wp2_with fail
              go_quiet (fail)
              have hbz : Below wo.heap.size wo (wr.drewN nq) := below_drewN hbi _
              generalize wr.drewN nq = wz at hbz ⊢
              clear hbi
              go_wp2_with fail
              have hownz := hown.below hbz
              have hiz := hownz.ints
              have hcapz := hownz.cap
              have hbb := hb.more hbz
              have hszz := hbb.size
              have e0 : (0 : Int) ≤ (j : Int) := by omega
              have e1 : (j : Int) ≤ (m : Int) := by omega
              have e2 : (j : Int) ≤ (c1 : Int) := by omega
              clear hown hown_i hb h0 h1 h2 h3 h4 h5 hc0 hc1 hbz hbx
              go_region_held3 (fun wx => Below wz.heap.size wz wx) (first | exact (Below.refl _ _).drew | exact Below.trans (by assumption) (by assumption) | exact Below.alloc (by assumption) (Below.size (by assumption)) _)
                (first
                  | ((refine stepS2 (base := wz.heap.size) (M := (natI X).take j) rfl (.const (.slice none 0 0)) (.tmp 44) (by rfl) (by rfl) (by rfl) (by rfl) (Own.nil _ _) ((hiz.to (by omega)).below (by assumption)) j (by omega) (by omega) (Below.size (by assumption)) ?_; intro A2 c2 w2 hown2 hb2 hg2 hl2))
                  | ((refine stepS2 (base := wz.heap.size) (M := [(k : Int)]) rfl (.tmp 45) (.tmp 47) (by rfl) (by rfl) (by rfl) (by rfl) (by repeat (first | with_reducible exact hown2 | with_reducible apply Own.drew | with_reducible apply Own.alloc)) (by repeat (first | with_reducible apply Ints.drewD | ((with_reducible refine Ints.oneG hk64.out ?_ ?_ ?_ ?_); rfl; rfl; rfl; focus (simp; done)) | with_reducible apply Ints.alloc | ((with_reducible refine Ints.growG hg2 ?_ ?_); focus (intro a ha; cases ha; first | (simp [blk]; done) | (simp [blk]; omega))))) (j + 1) (by omega) (by omega) (Below.size (by assumption)) ?_; intro A3 c3 w3 hown3 hb3 hg3 hl3))
                  | ((refine stepS2 (base := wz.heap.size) (M := (natI X).drop j) rfl (.tmp 48) (.tmp 51) (by rfl) (by rfl) (by rfl) (by rfl) (by repeat (first | with_reducible exact hown3 | with_reducible apply Own.drew | with_reducible apply Own.alloc)) ((hiz.from (c := c1) (by omega) hcapz).below (by assumption)) (m + 1) (by omega) (by omega) (Below.size (by assumption)) ?_; intro A4 c4 w4 hown4 hb4 hg4 hl4)))
              all_goals
                have hbf := hbb.more (show Below wz.heap.size wz _ by assumption)
                clear hb2 hb3 hb4 hg2 hg3 hg4 hl2 hl3 hl4 hown2 hown3 hownz hiz hbb
                go_wp2_with fail
                go_roundw
                case rel => exact ⟨k + 1, m + 1, X.take j ++ [k] ++ X.drop j, A4, c4, by omega, by omega, by go_num, rfl, by simpa [natI, List.map_take, List.map_drop] using hown4.mono hszz, hbf, HI⟩
                case measure => simp [intOf]; omega
      · have hs := Lib.hid (show X = axTo L (k + 1) by rw [HX.out]; show axTo L k = if isP (la L k) then _ else _; rw [isP_f hp]; rfl)
        have hp' : ((la L k).kind != 1) = true := by simpa using hp
        clear HX
        go_wp2_with fail
        go_roundw
        case rel => exact ⟨k + 1, m, X, A1, c1, by omega, by omega, by go_num, rfl, hown, hb, hs⟩
        case measure => simp [intOf]; omega
    · have hkn : k = n := by omega
      subst hkn
      have hX : X = axL L := by rw [HX.out]; unfold axL; rw [HL.out]
      have hmX : m = (axL L).length := by rw [← hX, ← natI_len, hown.len]
      subst hmX
      rw [hX] at hown
      have HX2 := Lib.hid hX
      clear hX HX
      go_wp2_with fail
      go_ret
      exact ⟨_, _, rfl, hown.mono (by omega), hb.below⟩
end

section
open Go.RowKit

theorem bool_eq_comm' (a b : Bool) : (a == b) = (b == a) := by cases a <;> cases b <;> rfl
set_option maxRecDepth 100000 in
set_option maxHeartbeats 1600000 in
theorem ref_Turn_axis (K : Int) (d : Nat) (A B : Option Addr) (n c m cb : Nat) (L : List Lt) (w : World) (hA : Lets w A n L) (g : Good K L) (hB : Ints w B m (natI (axL L))) (hd : d < dartsN L) (hge : 2 * n ≤ d) :
    Calls Tryd.prog 121 #[.agg #[.int .i64 K, .slice A n c], .slice B m cb, .int .i64 d] w fun e w' => e = .returned (.int .i64 (leftF L (axL L) d)) ∧ Below w.heap.size w w' := by
  have hle := hA.le
  have HL := Lib.hid hA.len
  have hlenm := hB.len
  rw [natI_len] at hlenm
  have hbx := Boxed.refl w K A n c
  have hbc := hbx.below
  have hmp := g.m_pos
  have hA' := hA.below hbc
  have hB' := hB.below hbc
  have hlem := hB.le
  unfold dartsN at hd
  rw [hlenm] at hd hmp
  have hLn : L.length = n := HL.out
  rw [hLn] at hd
  rcases Nat.mod_two_eq_zero_or_one d with h2 | h2
  · obtain ⟨j, hj⟩ : ∃ j, d = 2 * n + 2 * j := ⟨(d - 2 * n) / 2, by omega⟩
    have hjm : j < m := by omega
    obtain ⟨t, ht⟩ : ∃ t, t = (j + 1) % m := ⟨_, rfl⟩
    have htm : t < m := by rw [ht]; exact Nat.mod_lt _ hmp
    have hx := ax_pass (L := L) (j := t) (by rw [hlenm]; exact htm)
    obtain ⟨v, hv⟩ : ∃ v, v = xat (axL L) t := ⟨_, rfl⟩
    obtain ⟨ad, y, rfl, hy, _, _, hcy⟩ := hB'.at_ htm
    have hyv : y = (v : Int) := by
      have h1 := hy.out
      rw [natI_at (by rw [hlenm]; exact htm)] at h1
      rw [hv]; exact (Option.some.inj h1).symm
    subst hyv
    have hvn : v < n := by rw [hv, ← hLn]; exact hx.2
    have hf := Lib.hid (show leftF L (axL L) d = alongN n v (!dwn L v) by
      unfold leftF
      rw [hLn, hlenm, if_pos hge, if_pos h2, show (d - 2 * n) / 2 = j by omega, ← ht, ← hv])
    have q1 : ((d : Int) - 2 * (n : Int)) / 2 = (j : Int) := by omega
    have q2 : ((d : Int) % 2 == 0) = true := by simp; omega
    have q3 : ((j : Int) + 1) % (m : Int) = (t : Int) := by rw [ht]; simp
    have q4 : (0 : Int) ≤ (t : Int) := by omega
    have q5 : (t : Int) < (m : Int) := by omega
    have q6 : (2 : Int) * (n : Int) ≤ (d : Int) := by omega
    have HT := Lib.hid ht
    have HV := Lib.hid hv
    have HJ := Lib.hid hj
    have hlm := hlenm
    clear hy ht hv hj h2 hLn hlenm hx hlm
    go_enter Tryd.func121, Tryd.ntmps121
    go_wp2_with fail
    go_region_held3 (fun wx => Boxed w wx K A n c ∧ wx.cell? ⟨w.heap.size, 0, none⟩ = some (.int .i64 K) ∧ wx.cell? ⟨w.heap.size, 1, none⟩ = some (.slice A n c))
      (first | exact hbx.drew.s | exact Boxed.s (Boxed.more (And.left (by assumption)) (by assumption)))
      (first
        | (go_at_call 63; refine (ref_Down K v A n c L _ (hA.below (Boxed.below (And.left (by assumption)))) (by omega)).mono ?_; rintro e wx ⟨rfl, hb1⟩)
        | (go_at_call 147; refine (ref_along K v _ A n c _ hvn hle).mono ?_; rintro e wy ⟨rfl, hb2⟩))
    all_goals
      go_wp2_with fail
      go_ret
      exact ⟨ret_int (by rw [hf.out]), Boxed.below (And.left (by assumption))⟩
  · obtain ⟨j, hj⟩ : ∃ j, d = 2 * n + 2 * j + 1 := ⟨(d - 2 * n) / 2, by omega⟩
    have hjm : j < m := by omega
    have hx := ax_pass (L := L) (j := j) (by rw [hlenm]; exact hjm)
    obtain ⟨v, hv⟩ : ∃ v, v = xat (axL L) j := ⟨_, rfl⟩
    obtain ⟨ad, y, rfl, hy, _, _, hcy⟩ := hB'.at_ hjm
    have hyv : y = (v : Int) := by
      have h1 := hy.out
      rw [natI_at (by rw [hlenm]; exact hjm)] at h1
      rw [hv]; exact (Option.some.inj h1).symm
    subst hyv
    have hvn : v < n := by rw [hv, ← hLn]; exact hx.2
    have hf := Lib.hid (show leftF L (axL L) d = alongN n v (dwn L v) by
      unfold leftF
      rw [hLn, if_pos hge, if_neg (by omega), show (d - 2 * n) / 2 = j by omega, ← hv])
    have q1 : ((d : Int) - 2 * (n : Int)) / 2 = (j : Int) := by omega
    have q2 : ((d : Int) % 2 == 0) = false := by simp; omega
    have q4 : (0 : Int) ≤ (j : Int) := by omega
    have q5 : (j : Int) < (m : Int) := by omega
    have q6 : (2 : Int) * (n : Int) ≤ (d : Int) := by omega
    have HV := Lib.hid hv
    have HJ := Lib.hid hj
    clear hy hv hj h2 hLn hlenm hx
    go_enter Tryd.func121, Tryd.ntmps121
    go_wp2_with fail
    go_region_held3 (fun wx => Boxed w wx K A n c ∧ wx.cell? ⟨w.heap.size, 0, none⟩ = some (.int .i64 K) ∧ wx.cell? ⟨w.heap.size, 1, none⟩ = some (.slice A n c))
      (first | exact hbx.drew.s | exact Boxed.s (Boxed.more (And.left (by assumption)) (by assumption)))
      (first
        | (go_at_call 63; refine (ref_Down K v A n c L _ (hA.below (Boxed.below (And.left (by assumption)))) (by omega)).mono ?_; rintro e wx ⟨rfl, hb1⟩)
        | (go_at_call 147; refine (ref_along K v _ A n c _ hvn hle).mono ?_; rintro e wy ⟨rfl, hb2⟩))
    all_goals
      go_wp2_with fail
      go_ret
      exact ⟨ret_int (by rw [hf.out]), Boxed.below (And.left (by assumption))⟩
theorem head_facts {d n v : Nat} (hd : d < 2 * n) (hv : v = headN n d) : ∃ e : Nat, (d : Int) / 2 = (e : Int) ∧ v < n ∧ ((d % 2 = 0 ∧ ((e : Int) + 1) % (n : Int) = (v : Int)) ∨ (d % 2 = 1 ∧ v = e)) := by
  refine ⟨d / 2, by omega, by rw [hv]; exact headN_lt hd, ?_⟩
  unfold headN at hv
  rcases Nat.mod_two_eq_zero_or_one d with h | h
  · rw [if_pos h] at hv
    exact .inl ⟨h, by rw [hv]; simp⟩
  · rw [if_neg (by omega)] at hv
    exact .inr ⟨h, hv⟩
theorem atI_natI {X : List Nat} {v : Nat} (h : v ∈ X) : atI (natI X) (v : Int) = (idxN X v : Nat) := by
  unfold atI idxN natI
  rw [if_pos (List.mem_map.2 ⟨v, h, rfl⟩), List.findIdx_map]
  congr 1
  congr 1
  funext x
  simp only [Function.comp]
  rw [Bool.eq_iff_iff]
  simp
  omega
set_option maxRecDepth 100000 in
set_option maxHeartbeats 3200000 in
theorem ref_Turn_cross (K : Int) (d : Nat) (A B : Option Addr) (n c m cb : Nat) (L : List Lt) (w : World) (hA : Lets w A n L) (g : Good K L) (hB : Ints w B m (natI (axL L))) (hlt : d < 2 * n) (hc : isC (la L (headN n d)) = true) :
    Calls Tryd.prog 121 #[.agg #[.int .i64 K, .slice A n c], .slice B m cb, .int .i64 d] w fun e w' => e = .returned (.int .i64 (leftF L (axL L) d)) ∧ Below w.heap.size w w' := by
  have hle := hA.le
  have hLn : L.length = n := hA.len
  have hbx := Boxed.refl w K A n c
  have hA' := hA.below hbx.below
  have hlem := hB.le
  obtain ⟨v, hv⟩ : ∃ v, v = headN n d := ⟨_, rfl⟩
  obtain ⟨e, he, hvn, hcase⟩ := head_facts hlt hv
  rw [← hv] at hc
  have hov : othN L v < n := by rw [← hLn]; exact isC_lt (g.other hc).2.1
  have hf := g.left_cross (d := d) (by omega) (by rw [hLn, ← hv]; exact hc)
  rw [hLn, ← hv] at hf
  have hk : (la L v).kind = 2 := by unfold isC at hc; simpa using hc
  obtain ⟨gg, o, rfl, _, hx, _⟩ := hA'.at_ hvn
  obtain ⟨x0, x1, x2, x3, x4, x5⟩ := hx
  have q0 : decide ((2 : Int) * (n : Int) ≤ (d : Int)) = false := by simp; omega
  have q6 : ((la L v).kind == 2) = true := by simpa using hk
  have v0 : (0 : Int) ≤ (v : Int) := by omega
  have v1 : (v : Int) < (n : Int) := by omega
  have HV := Lib.hid hv
  clear hv hc hk
  cases hX : ((la L v).over == ((la L v).sign == 1)) <;> rcases hcase with ⟨hp, hq⟩ | ⟨hp, hq⟩
  all_goals
    rw [hX] at hf
    first
      | (have q2 : ((d : Int) % 2 == 0) = true := (by simp; omega)
         have q2' : (d % 2 == 0) = true := (by simp; omega)
         rw [q2'] at hf
         clear q2')
      | (have q2 : ((d : Int) % 2 == 0) = false := (by simp; omega)
         have q2' : (d % 2 == 0) = false := (by simp; omega)
         rw [q2'] at hf
         clear q2'
         subst hq)
    have HF := Lib.hid hf
    clear hf hp
    go_enter Tryd.func121, Tryd.ntmps121
    go_wp2_with fail
    try rw [hq]
    try clear hq
    go_region_held3 (fun wx => Boxed w wx K (some ⟨gg, o, none⟩) n c ∧ wx.cell? ⟨w.heap.size, 0, none⟩ = some (.int .i64 K) ∧ wx.cell? ⟨w.heap.size, 1, none⟩ = some (.slice (some ⟨gg, o, none⟩) n c))
      (first | exact (hbx.alloc _).drew.s | exact Boxed.s (Boxed.more (And.left (by assumption)) (by assumption)))
      (first
        | (go_at_call 148; refine (ref_Other K v (some ⟨gg, o, none⟩) n c L _ (hA.below (Boxed.below (And.left (by assumption)))) hvn).mono ?_; rintro e wx ⟨rfl, hb1⟩)
        | (go_at_call 147; refine (ref_along K (othN L v) _ (some ⟨gg, o, none⟩) n c _ hov hle).mono ?_; rintro e wy ⟨rfl, hb2⟩))
    all_goals
      go_wp2_with fail
      go_ret
      exact ⟨ret_int (by rw [HF.out]; rfl), Boxed.below (And.left (by assumption))⟩
set_option maxRecDepth 100000 in
set_option maxHeartbeats 3200000 in
theorem ref_Turn_pass (K : Int) (d : Nat) (A B : Option Addr) (n c m cb : Nat) (L : List Lt) (w : World) (hA : Lets w A n L) (g : Good K L) (hB : Ints w B m (natI (axL L))) (hlt : d < 2 * n) (hc : isP (la L (headN n d)) = true) :
    Calls Tryd.prog 121 #[.agg #[.int .i64 K, .slice A n c], .slice B m cb, .int .i64 d] w fun e w' => e = .returned (.int .i64 (leftF L (axL L) d)) ∧ Below w.heap.size w w' := by
  have hle := hA.le
  have hLn : L.length = n := hA.len
  have hbx := Boxed.refl w K A n c
  have hA' := hA.below hbx.below
  have hB' := hB.below hbx.below
  have hlem := hB.le
  have hlenm := hB.len
  rw [natI_len] at hlenm
  have hmp := g.m_pos
  rw [hlenm] at hmp
  obtain ⟨v, hv⟩ : ∃ v, v = headN n d := ⟨_, rfl⟩
  obtain ⟨e, he, hvn, hcase⟩ := head_facts hlt hv
  rw [← hv] at hc
  have hf := g.left_pass (d := d) (by omega) (by rw [hLn, ← hv]; exact hc)
  rw [hLn, ← hv, hlenm] at hf
  obtain ⟨j, hj⟩ : ∃ j, j = atN L v := ⟨_, rfl⟩
  have hjm : j < m := by rw [hj, ← hlenm]; exact g.at_lt hc
  have hat := atI_natI (X := axL L) (v := v) (List.mem_of_getElem? (g.at_ hc))
  rw [g.idx hc, ← hj] at hat
  rw [← hj] at hf
  obtain ⟨t, ht⟩ : ∃ t, t = (j + m - 1) % m := ⟨_, rfl⟩
  have htm : t < m := by rw [ht]; exact Nat.mod_lt _ hmp
  rw [← ht] at hf
  have q9 : ((j : Int) + (m : Int) - 1) % (m : Int) = (t : Int) := by
    rw [ht, Int.natCast_emod]
    congr 1
    omega
  have hk : (la L v).kind = 1 := by unfold isP at hc; simpa using hc
  obtain ⟨gg, o, rfl, _, hx, _⟩ := hA'.at_ hvn
  obtain ⟨x0, x1, x2, x3, x4, x5⟩ := hx
  have q0 : decide ((2 : Int) * (n : Int) ≤ (d : Int)) = false := by simp; omega
  have q6 : ((la L v).kind == 2) = false := by simp; omega
  have v0 : (0 : Int) ≤ (v : Int) := by omega
  have v1 : (v : Int) < (n : Int) := by omega
  have HV := Lib.hid hv
  have HAT := Lib.hid hat
  have HJ := Lib.hid hj
  have HT := Lib.hid ht
  have HM := Lib.hid hlenm
  have HLn := Lib.hid hLn
  have hvle : v ≤ n := by omega
  clear hv hc hk hat hj ht hlenm hLn
  cases hX : dwn L v <;> rcases hcase with ⟨hp, hq⟩ | ⟨hp, hq⟩
  all_goals
    rw [hX] at hf
    have HX := Lib.hid hX
    clear hX
    first
      | (have q2 : ((d : Int) % 2 == 0) = true := (by simp; omega)
         have q2' : (d % 2 == 0) = true := (by simp; omega)
         rw [q2'] at hf
         clear q2')
      | (have q2 : ((d : Int) % 2 == 0) = false := (by simp; omega)
         have q2' : (d % 2 == 0) = false := (by simp; omega)
         rw [q2'] at hf
         clear q2'
         subst hq)
    have HF := Lib.hid hf
    clear hf hp
    go_enter Tryd.func121, Tryd.ntmps121
    go_wp2_with fail
    try rw [hq]
    try clear hq
    refine (ref_at B m cb (natI (axL L)) _ _ (hB'.alloc _)).mono ?_
    rintro e1 w1 ⟨rfl, rfl⟩
    rw [HAT.out]
    go_wp2_with fail
    try rw [hq]
    try clear hq
    refine (ref_Down K v (some ⟨gg, o, none⟩) n c L _ (hA'.alloc _) hvle).mono ?_
    rintro e2 w2 ⟨rfl, hb2⟩
    rw [HX.out]
    go_wp2_with fail
    go_ret
    exact ⟨ret_int (by rw [HF.out]; simp), (hbx.alloc _).below.trans (hb2.mono (by simp; omega))⟩
/-- The step to the left. -/
theorem ref_Turn (K : Int) (d : Nat) (A B : Option Addr) (n c m cb : Nat) (L : List Lt) (w : World) (hA : Lets w A n L) (g : Good K L) (hB : Ints w B m (natI (axL L))) (hd : d < dartsN L) :
    Calls Tryd.prog 121 #[.agg #[.int .i64 K, .slice A n c], .slice B m cb, .int .i64 d] w fun e w' => e = .returned (.int .i64 (leftF L (axL L) d)) ∧ Below w.heap.size w w' := by
  rcases Nat.lt_or_ge d (2 * n) with h | h
  · rcases g.kinds (headN n d) (by rw [hA.len]; exact headN_lt h) with hp | hc
    · exact ref_Turn_pass K d A B n c m cb L w hA g hB h hp
    · exact ref_Turn_cross K d A B n c m cb L w hA g hB h hc
  · exact ref_Turn_axis K d A B n c m cb L w hA g hB hd h
end

section
open Go.RowKit
open Go.Maps (Keyed)

/-- Block b is a map with just these entries, in order; each key is one. -/
def KMap (w : World) (P : Program) (k : TypeId) (b : Nat) (kv : List (Value × Value)) : Prop :=
  ∃ es clock, w.heap[b]? = some (.map es clock) ∧ es.toList.map (fun e => (e.key, e.val)) = kv ∧ ∀ p ∈ kv, ∃ l, keyOf P k p.1 = some l

section
variable {P : Program} {w w' : World} {k : TypeId} {b : Nat} {kv : List (Value × Value)}
theorem KMap.made (w : World) (P : Program) (k : TypeId) : KMap (w.alloc (.map #[] 0)) P k w.heap.size [] :=
  ⟨#[], 0, (MapKept.heap_alloc w _).1, rfl, by simp⟩
theorem KMap.lt (h : KMap w P k b kv) : b < w.heap.size := by
  obtain ⟨es, clock, hb, _⟩ := h
  exact (Array.getElem?_eq_some_iff.1 hb).1
theorem KMap.kept {row : Option Nat} (h : KMap w P k b kv) (hg : w.grownBy w' row) (hne : some b ≠ row) : KMap w' P k b kv := by
  have hlt := h.lt
  obtain ⟨es, clock, hb, r⟩ := h
  exact ⟨es, clock, (hg.block b hlt hne).trans hb, r⟩
theorem KMap.below {B : Nat} (h : KMap w P k b kv) (hb : Below B w w') (hB : b < B) : KMap w' P k b kv := by
  obtain ⟨es, clock, hh, r⟩ := h
  exact ⟨es, clock, (hb.block b hB).trans hh, r⟩
theorem KMap.drewN (h : KMap w P k b kv) (n : Nat) : KMap (w.drewN n) P k b kv := h
theorem KMap.drew (h : KMap w P k b kv) : KMap w.drew P k b kv := h
theorem KMap.alloc (h : KMap w P k b kv) (o : Obj) : KMap (w.alloc o) P k b kv := h.below ((Below.refl _ _).alloc (Nat.le_refl _) o) h.lt
theorem KMap.setCell (h : KMap w P k b kv) {p : Addr} (hp : b ≠ p.block) (u : Value) : KMap (w.setCell p u) P k b kv := by
  obtain ⟨es, clock, hh, r⟩ := h
  exact ⟨es, clock, (Below.heap_setCell w p u b hp).trans hh, r⟩
/-- What a search finds. -/
theorem KMap.find (K : Keyed P k) {es : Array MapEntry} (he : es.toList.map (fun e => (e.key, e.val)) = kv) (hk : ∀ p ∈ kv, ∃ l, keyOf P k p.1 = some l) {key : Value} {l : Lit} (hkey : keyOf P k key = some l) (w : World) :
    ((Instr.findKey k key es.toList).run P w = .ok none w ∧ ∀ p ∈ kv, p.1 ≠ key) ∨ ∃ (j : Nat) (v : Value), (Instr.findKey k key es.toList).run P w = .ok (some (j, v)) w ∧ kv[j]? = some (key, v) := by
  have hes : ∀ e ∈ es.toList, ∃ l, keyOf P k e.key = some l := fun e hm => hk (e.key, e.val) (by rw [← he]; exact List.mem_map.2 ⟨e, hm, rfl⟩)
  rcases K.find w hkey es.toList hes with ⟨h1, h2⟩ | ⟨j, e, h1, h2, h3⟩
  · refine .inl ⟨h1, fun p hp => ?_⟩
    rw [← he] at hp
    obtain ⟨e, hm, rfl⟩ := List.mem_map.1 hp
    exact h2 e hm
  · refine .inr ⟨j, e.val, h1, ?_⟩
    rw [← he, List.getElem?_map, h2, ← h3]
    rfl
/-- 'm[k]', without ok. -/
theorem KMap.look (h : KMap w P k b kv) (K : Keyed P k) {t e : TypeId} (ht : P.underlying t = some (.map k e)) {z : Value} (hz : (zeroValue e).run P w = .ok z w) {key : Value} {l : Lit} (hkey : keyOf P k key = some l) :
    ((Instr.lookup t (.map (some b)) key false).run P w = .ok z w ∧ ∀ p ∈ kv, p.1 ≠ key) ∨ ∃ (j : Nat) (v : Value), (Instr.lookup t (.map (some b)) key false).run P w = .ok v w ∧ kv[j]? = some (key, v) := by
  obtain ⟨es, clock, hb, he, hk⟩ := h
  rcases KMap.find K he hk hkey w with ⟨h1, h2⟩ | ⟨j, v, h1, h2⟩
  · exact .inl ⟨by simp [Instr.lookup, run_underlying ht, MapKept.run_getObj_map hb, Result.andThen, K.check w _ hkey, h1, hz], h2⟩
  · exact .inr ⟨j, v, by simp [Instr.lookup, run_underlying ht, MapKept.run_getObj_map hb, Result.andThen, K.check w _ hkey, h1], h2⟩
/-- 'm[k] = v', the key new. -/
theorem KMap.push (h : KMap w P k b kv) (K : Keyed P k) {t e : TypeId} (ht : P.underlying t = some (.map k e)) {key val : Value} {l : Lit} (hkey : keyOf P k key = some l) (hnew : ∀ p ∈ kv, p.1 ≠ key) :
    ∃ w', (Instr.mapUpdate t (.map (some b)) key val).run P w = .ok () w' ∧ KMap w' P k b (kv ++ [(key, val)]) ∧ w.grownBy w' (some b) := by
  obtain ⟨es, clock, hb, he, hk⟩ := h
  rcases KMap.find K he hk hkey w with ⟨h1, _⟩ | ⟨j, v, _, h2⟩
  · refine ⟨ChangeMaps.setBlock w b (.map (es.push { key, val, born := clock }) (clock + 1)), by simp [Instr.mapUpdate, run_underlying ht, MapKept.run_getObj_map hb, K.check w _ hkey, h1, MapKept.run_setObj_map _ hb, Result.andThen, ChangeMaps.setBlock], ?_, ?_⟩
    · refine ⟨_, _, ChangeMaps.heap_setBlock_same hb _, by simp [← he], fun p hp => ?_⟩
      rcases List.mem_append.1 hp with hp | hp
      · exact hk p hp
      · simp at hp; subst hp; exact ⟨l, hkey⟩
    · exact ⟨rfl, rfl, rfl, by simp [ChangeMaps.setBlock], fun i _ hi => ChangeMaps.heap_setBlock_other hb _ (fun e => hi (by rw [e]))⟩
  · exact absurd rfl (hnew _ (List.mem_of_getElem? h2))
/-- 'm[k] = v', the key there already, at the place j alone. -/
theorem KMap.put (h : KMap w P k b kv) (K : Keyed P k) {t e : TypeId} (ht : P.underlying t = some (.map k e)) {key val v : Value} {l : Lit} {j : Nat} (hkey : keyOf P k key = some l) (hj : kv[j]? = some (key, v)) (hone : ∀ i u, kv[i]? = some (key, u) → i = j) :
    ∃ w', (Instr.mapUpdate t (.map (some b)) key val).run P w = .ok () w' ∧ KMap w' P k b (kv.set j (key, val)) ∧ w.grownBy w' (some b) := by
  obtain ⟨es, clock, hb, he, hk⟩ := h
  rcases KMap.find K he hk hkey w with ⟨_, h2⟩ | ⟨j', v', h1, h2⟩
  · exact absurd rfl (h2 _ (List.mem_of_getElem? hj))
  · obtain rfl := hone j' v' h2
    have hes : ∃ x, es[j']? = some x ∧ x.key = key := by
      rw [← he, List.getElem?_map] at h2
      obtain ⟨x, hx, hxe⟩ := Option.map_eq_some_iff.1 h2
      exact ⟨x, by simpa using hx, congrArg (·.1) hxe⟩
    obtain ⟨x, hx, hxk⟩ := hes
    refine ⟨ChangeMaps.setBlock w b (.map (es.modify j' fun e => { e with key := key, val := val }) clock), by simp [Instr.mapUpdate, run_underlying ht, MapKept.run_getObj_map hb, K.check w _ hkey, h1, hx, hxk, K.stays w hkey, MapKept.run_setObj_map _ hb, Result.andThen, ChangeMaps.setBlock], ?_, ?_⟩
    · refine ⟨_, _, ChangeMaps.heap_setBlock_same hb _, ?_, fun p hp => ?_⟩
      · rw [← he]
        apply List.ext_getElem?
        intro i
        simp only [Array.toList_modify, List.getElem?_map, List.getElem?_set, List.getElem?_modify]
        by_cases e : j' = i
        · subst e
          have hlt : j' < es.size := (Array.getElem?_eq_some_iff.1 hx).1
          simp [hlt]
        · simp [e]
      · rcases List.mem_or_eq_of_mem_set hp with hp | hp
        · exact hk p hp
        · subst hp; exact ⟨l, hkey⟩
    · exact ⟨rfl, rfl, rfl, by simp [ChangeMaps.setBlock], fun i _ hi => ChangeMaps.heap_setBlock_other hb _ (fun e => hi (by rw [e]))⟩
end
/-- Keys of a kind that are integers; pairs of ints. -/
theorem intKeyed : Keyed Tryd.prog 3 := Go.Maps.int_keyed Tryd.underlying3
theorem laidOut : laidOutB Tryd.prog = true := by kernel_rfl
theorem pairRow : 139 < Tryd.prog.types.size := of_decide_eq_true (by kernel_rfl)
theorem pairCells : Tryd.prog.cellsOf 139 = 2 := by kernel_rfl
theorem pairKeyed : Keyed Tryd.prog 139 :=
  Keyed.of_law (deep_law_laid laidOut (m := 2) (by omega) pairRow (by kernel_rfl) (by rw [Tryd.underlying139]))
theorem pairType : Tryd.prog.keyType 139 = true := by kernel_rfl
theorem pairKey (x y : Int) (hx : I64 x) (hy : I64 y) : ∃ l, keyOf Tryd.prog 139 (.agg #[.int .i64 x, .int .i64 y]) = some l := by
  have w1 : (Lit.int .i64 x).wf = true := Go.WalkArith.wf_i64 hx
  have w2 : (Lit.int .i64 y).wf = true := Go.WalkArith.wf_i64 hy
  obtain ⟨m, hm⟩ : ∃ m, Tryd.prog.types.size = m + 1 := ⟨Tryd.prog.types.size - 1, by have := pairRow; omega⟩
  have c3 : Tryd.prog.cellsOf 3 = 1 := by kernel_rfl
  simp [keyOf, Tryd.underlying139, pairType, Value.formed, pairCells, Value.cells, hm, Program.keyLits, Tryd.underlying3, c3, w1, w2, show List.range 2 = [0, 1] from rfl]
theorem zeroBool (w : World) : (zeroValue 4).run Tryd.prog w = .ok (.bool false) w := by kernel_rfl
end

section
open Go.RowKit
open Go.Maps (Keyed)
section
variable {P : Program} {w w' : World} {k : TypeId} {b : Nat} {kv : List (Value × Value)}
/-- 'v, ok := m[k]'. -/
theorem KMap.lookOk (h : KMap w P k b kv) (K : Keyed P k) {t e : TypeId} (ht : P.underlying t = some (.map k e)) {z : Value} (hz : ∀ w, (zeroValue e).run P w = .ok z w) {key : Value} {l : Lit} (hkey : keyOf P k key = some l) :
    ((Instr.lookup t (.map (some b)) key true).run P w = .ok (.tuple #[z, .bool false]) w ∧ ∀ p ∈ kv, p.1 ≠ key) ∨ ∃ (j : Nat) (v : Value), (Instr.lookup t (.map (some b)) key true).run P w = .ok (.tuple #[v, .bool true]) w ∧ kv[j]? = some (key, v) := by
  obtain ⟨es, clock, hb, he, hk⟩ := h
  rcases KMap.find K he hk hkey w with ⟨h1, h2⟩ | ⟨j, v, h1, h2⟩
  · exact .inl ⟨by simp [Instr.lookup, run_underlying ht, MapKept.run_getObj_map hb, Result.andThen, K.check w _ hkey, h1, hz], h2⟩
  · exact .inr ⟨j, v, by simp [Instr.lookup, run_underlying ht, MapKept.run_getObj_map hb, Result.andThen, K.check w _ hkey, h1], h2⟩
end
def ent (L : List Lt) (i : Nat) (d : Int) : Value × Value := (.int .i64 d, .agg #[.int .i64 (lastV L d false i), .int .i64 (lastV L d true i)])
/-- The map of visits behind i letters. -/
structure Vis (w : World) (b : Nat) (L : List Lt) (i : Nat) (ids : List Int) : Prop where
  map : KMap w Tryd.prog 3 b (ids.map (ent L i))
  nodup : ids.Nodup
  mem : ∀ d, d ∈ ids ↔ 0 < tN L d i
  len : ids.length = dN L i
theorem zeroPair (w : World) : (zeroValue 139).run Tryd.prog w = .ok (.agg #[.int .i64 0, .int .i64 0]) w := by kernel_rfl
theorem intKey (x : Int) (hx : I64 x) : ∃ l, keyOf Tryd.prog 3 (.int .i64 x) = some l := ⟨_, Go.Maps.keyOf_int_mk Tryd.underlying3 (Go.WalkArith.wf_i64 hx)⟩
section
variable {w w' : World} {b i : Nat} {L : List Lt} {ids : List Int}
theorem Vis.look (h : Vis w b L i ids) {d : Int} (hd : I64 d) :
    ((Instr.lookup 85 (.map (some b)) (.int .i64 d) true).run Tryd.prog w = .ok (.tuple #[.agg #[.int .i64 0, .int .i64 0], .bool false]) w ∧ tN L d i = 0) ∨
    ((Instr.lookup 85 (.map (some b)) (.int .i64 d) true).run Tryd.prog w = .ok (.tuple #[.agg #[.int .i64 (lastV L d false i), .int .i64 (lastV L d true i)], .bool true]) w ∧ 0 < tN L d i) := by
  obtain ⟨l, hl⟩ := intKey d hd
  rcases h.map.lookOk intKeyed Tryd.underlying85 zeroPair hl with ⟨h1, h2⟩ | ⟨j, v, h1, h2⟩
  · refine .inl ⟨h1, ?_⟩
    rcases Nat.eq_zero_or_pos (tN L d i) with h0 | h0
    · exact h0
    · exact absurd rfl (h2 (ent L i d) (List.mem_map.2 ⟨d, (h.mem d).2 h0, rfl⟩))
  · rw [List.getElem?_map] at h2
    obtain ⟨d', hd', he⟩ := Option.map_eq_some_iff.1 h2
    simp only [ent, Prod.mk.injEq, Value.int.injEq, true_and] at he
    obtain ⟨rfl, rfl⟩ := he
    exact .inr ⟨h1, (h.mem d').1 (List.mem_of_getElem? hd')⟩
theorem Vis.lookNo (h : Vis w b L i ids) {d : Int} (hd : I64 d) (ht : tN L d i = 0) : (Instr.lookup 85 (.map (some b)) (.int .i64 d) true).run Tryd.prog w = .ok (.tuple #[.agg #[.int .i64 0, .int .i64 0], .bool false]) w := by
  rcases h.look hd with ⟨h1, _⟩ | ⟨_, h2⟩
  · exact h1
  · omega
theorem Vis.lookYes (h : Vis w b L i ids) {d : Int} (hd : I64 d) (ht : 0 < tN L d i) : (Instr.lookup 85 (.map (some b)) (.int .i64 d) true).run Tryd.prog w = .ok (.tuple #[.agg #[.int .i64 (lastV L d false i), .int .i64 (lastV L d true i)], .bool true]) w := by
  rcases h.look hd with ⟨_, h2⟩ | ⟨h1, _⟩
  · omega
  · exact h1
theorem tN_succ (L : List Lt) (d : Int) (i : Nat) : tN L d (i + 1) = tN L d i + (if (isC (la L i) && (la L i).id == d) = true then 1 else 0) := rfl
/-- A letter that is no visit. -/
theorem Vis.skip (h : Vis w b L i ids) (hc : isC (la L i) = false) : Vis w b L (i + 1) ids := by
  have hv : ∀ d o, visB L d o i = false := fun d o => by unfold visB; rw [hc]; rfl
  refine ⟨?_, h.nodup, fun d => ?_, ?_⟩
  · have : ids.map (ent L (i + 1)) = ids.map (ent L i) := List.map_congr_left fun d _ => by unfold ent; rw [lastV_stay (hv d false), lastV_stay (hv d true)]
    rw [this]; exact h.map
  · rw [h.mem d, tN_succ, hc]; simp
  · rw [h.len]
    unfold dN
    rw [countTo_no (by unfold nwB; rw [hc]; rfl)]
/-- One visit more is stored. -/
theorem Vis.store (h : Vis w b L i ids) (hc : isC (la L i) = true) (hd : I64 (la L i).id) :
    ∃ w' ids', (Instr.mapUpdate 85 (.map (some b)) (.int .i64 (la L i).id) (.agg #[.int .i64 (lastV L (la L i).id false (i + 1)), .int .i64 (lastV L (la L i).id true (i + 1))])).run Tryd.prog w = .ok () w' ∧ Vis w' b L (i + 1) ids' ∧ w.grownBy w' (some b) := by
  obtain ⟨l, hl⟩ := intKey _ hd
  have hoth : ∀ d, d ≠ (la L i).id → ent L (i + 1) d = ent L i d := fun d hne => by
    have hv : ∀ o, visB L d o i = false := fun o => by unfold visB; simp; intro _ e; exact absurd e.symm hne
    unfold ent
    rw [lastV_stay (hv false), lastV_stay (hv true)]
  by_cases hm : (la L i).id ∈ ids
  · obtain ⟨j, hj, hje⟩ := List.getElem_of_mem hm
    have hj2 : (ids.map (ent L i))[j]? = some (ent L i (la L i).id) := by rw [List.getElem?_map, List.getElem?_eq_getElem hj, hje]; rfl
    have huniq : ∀ t u, (ids.map (ent L i))[t]? = some (.int .i64 (la L i).id, u) → t = j := fun t u ht => by
      rw [List.getElem?_map] at ht
      obtain ⟨d', hd', he⟩ := Option.map_eq_some_iff.1 ht
      simp only [ent, Prod.mk.injEq, Value.int.injEq, true_and] at he
      have e1 := he.1
      subst e1
      exact (List.getElem?_inj (List.getElem?_eq_some_iff.1 hd').1 h.nodup).1 (hd'.trans (by rw [List.getElem?_eq_getElem hj, hje]))
    obtain ⟨w', h1, h2, h3⟩ := h.map.put intKeyed Tryd.underlying85 (val := .agg #[.int .i64 (lastV L (la L i).id false (i + 1)), .int .i64 (lastV L (la L i).id true (i + 1))]) hl hj2 huniq
    refine ⟨w', ids, h1, ⟨?_, h.nodup, fun d => ?_, ?_⟩, h3⟩
    · have : (ids.map (ent L i)).set j (.int .i64 (la L i).id, .agg #[.int .i64 (lastV L (la L i).id false (i + 1)), .int .i64 (lastV L (la L i).id true (i + 1))]) = ids.map (ent L (i + 1)) := by
        apply List.ext_getElem?
        intro t
        rw [List.getElem?_set, List.getElem?_map, List.getElem?_map]
        by_cases e : j = t
        · subst e
          rw [if_pos rfl, if_pos (by simpa using hj), List.getElem?_eq_getElem hj, hje]; rfl
        · rw [if_neg e]
          cases ht : ids[t]? with
          | none => rfl
          | some d =>
            simp only [Option.map_some]
            rw [hoth d (fun ed => e (by
              subst ed
              exact (List.getElem?_inj hj h.nodup).1 (by rw [List.getElem?_eq_getElem hj, hje, ht]))) ]
      rw [← this]; exact h2
    · rw [h.mem d, tN_succ]
      by_cases e : (la L i).id = d
      · have := (h.mem d).1 (by rw [← e]; exact hm)
        omega
      · rw [if_neg (by simp [e])]; omega
    · rw [h.len]
      unfold dN
      rw [countTo_no]
      cases hq : nwB L i with
      | false => rfl
      | true =>
        have := (nw_iff.1 hq).2
        have := (h.mem _).1 hm
        omega
  · have hnew : ∀ p ∈ ids.map (ent L i), p.1 ≠ .int .i64 (la L i).id := fun p hp e => by
      obtain ⟨d, hd', rfl⟩ := List.mem_map.1 hp
      simp only [ent, Value.int.injEq, true_and] at e
      subst e
      exact hm hd'
    obtain ⟨w', h1, h2, h3⟩ := h.map.push intKeyed Tryd.underlying85 (val := .agg #[.int .i64 (lastV L (la L i).id false (i + 1)), .int .i64 (lastV L (la L i).id true (i + 1))]) hl hnew
    refine ⟨w', ids ++ [(la L i).id], h1, ⟨?_, ?_, fun d => ?_, ?_⟩, h3⟩
    · have : ids.map (ent L i) ++ [(.int .i64 (la L i).id, .agg #[.int .i64 (lastV L (la L i).id false (i + 1)), .int .i64 (lastV L (la L i).id true (i + 1))])] = (ids ++ [(la L i).id]).map (ent L (i + 1)) := by
        rw [List.map_append]
        refine congr (congrArg _ (List.map_congr_left fun d hd' => ?_)) rfl
        rw [hoth d (fun e => by subst e; exact hm hd')]
      rw [← this]; exact h2
    · rw [List.nodup_append]
      exact ⟨h.nodup, by simp, fun a ha b' hb' e => by simp at hb'; subst hb'; subst e; exact hm ha⟩
    · rw [List.mem_append, h.mem d, tN_succ, List.mem_singleton]
      by_cases e : (la L i).id = d
      · rw [if_pos (by simp [hc, e])]; constructor
        · intro _; omega
        · intro _; exact .inr e.symm
      · rw [if_neg (by simp [e])]
        constructor
        · rintro (h | h)
          · omega
          · exact absurd h.symm e
        · intro h; exact .inl (by omega)
    · rw [List.length_append, h.len]
      unfold dN
      rw [countTo_yes (nw_iff.2 ⟨hc, by
        rcases Nat.eq_zero_or_pos (tN L (la L i).id i) with h0 | h0
        · exact h0
        · exact absurd ((h.mem _).2 h0) hm⟩)]
      rfl
theorem Vis.made (w : World) (L : List Lt) : Vis (w.alloc (.map #[] 0)) w.heap.size L 0 [] :=
  ⟨KMap.made w _ _, by simp, fun d => by simp [tN, countTo], rfl⟩
theorem Vis.lt (h : Vis w b L i ids) : b < w.heap.size := h.map.lt
theorem Vis.kept {row : Option Nat} (h : Vis w b L i ids) (hg : w.grownBy w' row) (hne : some b ≠ row) : Vis w' b L i ids := ⟨h.map.kept hg hne, h.nodup, h.mem, h.len⟩
theorem Vis.alloc (h : Vis w b L i ids) (o : Obj) : Vis (w.alloc o) b L i ids := ⟨h.map.alloc o, h.nodup, h.mem, h.len⟩
theorem Vis.drew (h : Vis w b L i ids) : Vis w.drew b L i ids := ⟨h.map, h.nodup, h.mem, h.len⟩
theorem Vis.drewN (h : Vis w b L i ids) (k : Nat) : Vis (w.drewN k) b L i ids := ⟨h.map, h.nodup, h.mem, h.len⟩
theorem Vis.setCell (h : Vis w b L i ids) {p : Addr} (hp : b ≠ p.block) (u : Value) : Vis (w.setCell p u) b L i ids := ⟨h.map.setCell hp u, h.nodup, h.mem, h.len⟩
theorem Vis.next (h : Vis w b L i ids) (hb : Below w.heap.size w w') : Vis w' b L i ids := ⟨h.map.below hb h.lt, h.nodup, h.mem, h.len⟩
theorem Vis.run_len (h : Vis w b L i ids) (ty : TypeId) : (Builtin.len_ #[85] ty #[.map (some b)]).run Tryd.prog w = .ok (.int .i64 ids.length) w := by
  obtain ⟨es, clock, hb, he, _⟩ := h.map
  have hl : es.size = ids.length := by
    have := congrArg List.length he
    simpa using this
  simp [Builtin.len_, MapKept.run_getObj_map hb, hl, goInt]
theorem wpList_len_vis {ops : Array Oper} {rest : List Oper} {o : Oper} {a : Act} {Q : Exit → Act → World → Prop} (hg : o.guard = none) (m : Operand) (hop : o.op = Op.call { callee := Callee.builtin Builtin.len, args := #[m], argTypes := #[85] })
    (hm : a.eval m = .map (some b)) (h : Vis w b L i ids) (hK : wpList Tryd.prog ops Q rest (a.put o.dst (.int .i64 ids.length)) w) : wpList Tryd.prog ops Q (o :: rest) a w := by
  refine wpList_plain hg fun K' hK' => ?_
  unfold Oper.wp
  simp [execOp, hop, resolve, invoke, builtin, hm, h.run_len, Result.andThen]
  exact hK' _ _ hK
end
end
end Go.Proofs.YtkjcmppaapbabaaDoor
