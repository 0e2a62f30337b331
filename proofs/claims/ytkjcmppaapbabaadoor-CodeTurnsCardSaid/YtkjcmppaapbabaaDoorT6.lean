/-
  Contracts: the program's Swap. Conditions: the letters read.
-/
import Derived.Test.YtkjcmppaapbabaaDoorT5
import Derived.BigRegion
namespace Go.Proofs.YtkjcmppaapbabaaDoor
open Go.RowKit
/-- A diagram as the functions that change a code get it. -/
def DiaN (w : World) (p k : Nat) (A : Option Addr) (n c : Nat) (L : List Lt) : Prop :=
  w.cell? ⟨p, 1, none⟩ = some (.slice A n c) ∧ p < w.heap.size ∧ n ≤ c ∧ (0 < n → ∃ base b g2 g3 g4 g6 s P C ids, DiaF w base p k A n c L b g2 g3 g4 g6 s P C ids)
theorem DiaN.next {w w' : World} {p k : Nat} {A : Option Addr} {n c : Nat} {L : List Lt} (h : DiaN w p k A n c L) (hb : Below w.heap.size w w') : DiaN w' p k A n c L := by
  obtain ⟨h1, h2, h3, h4⟩ := h
  refine ⟨(hb.cell (p := ⟨p, 1, none⟩) h2).trans h1, Nat.lt_of_lt_of_le h2 hb.size, h3, fun hn => ?_⟩
  obtain ⟨base, b, g2, g3, g4, g6, s, P, C, ids, hF⟩ := h4 hn
  exact ⟨base, b, g2, g3, g4, g6, s, P, C, ids, hF.next hb⟩
def GivesL (w : World) (L : List Lt) (e : Ending) (w' : World) : Prop := ∃ (A' : Option Addr) (n' c' : Nat), e = .returned (.slice A' n' c') ∧ OwnL w' w.heap.size A' n' c' L ∧ Below w.heap.size w w'
def keepK (K : Int) (L : List Lt) : Int := if checkE K L = 0 then K else 0
def keepL (K : Int) (L M : List Lt) : List Lt := if checkE K L = 0 then M else []
theorem keepK_ok {K : Int} {L : List Lt} (h : checkE K L = 0) : keepK K L = K := by unfold keepK; rw [if_pos h]
theorem keepL_ok {K : Int} {L M : List Lt} (h : checkE K L = 0) : keepL K L M = M := by unfold keepL; rw [if_pos h]
theorem keepK_no {K : Int} {L : List Lt} (h : checkE K L ≠ 0) : keepK K L = 0 := by unfold keepK; rw [if_neg h]
theorem keepL_no {K : Int} {L M : List Lt} (h : checkE K L ≠ 0) : keepL K L M = [] := by unfold keepL; rw [if_neg h]
set_option maxRecDepth 100000 in
set_option maxHeartbeats 6400000 in
theorem swap_1 (p k : Nat) (A : Option Addr) (n c : Nat) (L : List Lt) (w : World) (hd : DiaN w p k A n c L) (hA : Lets w A n L) (hs : Tame (k : Int) L) :
    Calls Tryd.prog 92 #[.pointer (some ⟨p, 0, none⟩)] w (GivesL w (swapL L)) := by
  have hle := hA.le
  have hLn := Lib.hid hA.len
  have HS := Lib.hid hs
  obtain ⟨d1, d2, d3, d4⟩ := hd
  have HD4 := Lib.hid d4
  clear d4 hs
  go_enter Tryd.func92, Tryd.ntmps92
  go_wp2_with fail
  refine (clone_letters A n c L _ hA).mono ?_
  rintro e w1 ⟨A1, c1, rfl, hown, hb1⟩
  have hst : Hid (Upto swLt L L 0) := Lib.hid (Upto.zero _ _)
  clear d1
  go_wp2_with fail
  go_loopw [4, 13] (fun _ v13 wr => ∃ (i : Nat) (Lw : List Lt), i ≤ n ∧ v13 = .int .i64 i ∧ OwnL wr w.heap.size A1 n c1 Lw ∧ Below w.heap.size w wr ∧ Hid (Upto swLt L Lw i)) (fun _ v13 _ => n - (intOf v13).toNat)
  case atStart => exact ⟨0, L, Nat.zero_le _, rfl, hown, hb1, hst⟩
  case round =>
    obtain ⟨i, Lw, hi, rfl, hLw, hbr, HU⟩ := hrel
    clear hown hb1 hst
    by_cases hlt : i < n
    · obtain ⟨gg, o, rfl, hgg, hx, hok⟩ := hLw.lets.at_ hlt
      have hlw : la Lw i = la L i := by rw [HU.out.2 i (by rw [hLn.out]; exact hlt), if_neg (by omega)]
      have hgi : Lw[i]? = some (la L i) := by rw [la_get (by rw [hLw.len]; exact hlt), hlw]
      rw [hlw] at hx hok
      obtain ⟨y0, y1, y2, y3, y4, y5⟩ := hx
      have i0 : (0 : Int) ≤ (i : Int) := by omega
      have i1 : (i : Int) < (n : Int) := by omega
      have hcap := hLw.row.cap
      have hgb := (hLw.row.at_ _ rfl).2.1
      simp only [] at hgb
      have hszr := hbr.size
      have f4 : wr.frozen? ⟨gg, o + i * 6 + 4, none⟩ = false := hLw.row.free (j := i * 6 + 4) (by omega)
      have f5 : wr.frozen? ⟨gg, o + i * 6 + 5, none⟩ = false := hLw.row.free (j := i * 6 + 5) (by omega)
      have HOK := Lib.hid hok
      have HGI := Lib.hid hgi
      clear hok hgi hlw
      by_cases hk1 : (la L i).kind = 2
      · have q1 : ((la L i).kind == 2) = true := by simpa using hk1
        have hc2 := isC_t hk1
        have hsg := HS.out.sign i (by rw [hLn.out]; exact hlt) hc2
        have s0 : -1 ≤ (la L i).sign := by omega
        have s1 : (la L i).sign ≤ 1 := by omega
        have HU1 := Lib.hid (HU.out.set (by rw [hLn.out]; exact hlt) (sw_c hc2).symm)
        have hok1 : LtOk { la L i with over := !(la L i).over } := ⟨HOK.out.kind, HOK.out.gate, HOK.out.rank, HOK.out.id, HOK.out.sign⟩
        have hok2 : LtOk { la L i with over := !(la L i).over, sign := -(la L i).sign } := ⟨HOK.out.kind, HOK.out.gate, HOK.out.rank, HOK.out.id, ⟨by simp only []; omega, by simp only []; omega⟩⟩
        have hL1 := hLw.put (i := 5) (u := .bool (!(la L i).over)) (x' := { la L i with over := !(la L i).over }) HGI.out (by omega) rfl hok1 rfl
        have hL2 := hL1.put (i := 4) (j := i) (x := { la L i with over := !(la L i).over }) (u := .int .i64 (-(la L i).sign)) (x' := { la L i with over := !(la L i).over, sign := -(la L i).sign }) (by rw [List.getElem?_set_self (by rw [hLw.len]; exact hlt)]) (by omega) rfl hok2 rfl
        rw [List.set_set] at hL2
        have hb5 := (hbr.setCell (p := ⟨gg, o + (i * 6 + 5), none⟩) hgb (.bool (!(la L i).over))).setCell (p := ⟨gg, o + (i * 6 + 4), none⟩) hgb (.int .i64 (-(la L i).sign))
        have v1 : IntKind.i64.wrap (-(la L i).sign) = -(la L i).sign := IntWalk.i64_in _ (by omega)
        clear HU hk1 hc2 hsg hok1 hok2 hL1 hLw hbr
        go_wp2_with fail
        go_region
        go_wp2_with fail
        go_roundw
        case rel => exact ⟨i + 1, _, by omega, by go_num, by first | exact hL2 | exact hL2.next (Below.refl _ _).drew, by first | exact hb5 | exact hb5.drew, HU1⟩
        case measure => simp [intOf]; omega
      · have q1 : ((la L i).kind == 2) = false := by simpa using hk1
        have HU1 := Lib.hid (HU.out.skip (sw_n (x := la L i) (isC_f hk1)))
        clear hk1 HU
        go_wp2_with fail
        go_roundw
        case rel => exact ⟨i + 1, Lw, by omega, by go_num, hLw, hbr, HU1⟩
        case measure => simp [intOf]; omega
    · have hin : i = n := by omega
      have hU := HU.out
      rw [hin, ← hLn.out] at hU
      have hLf := hU.all
      rw [hLf] at hLw
      have i1 : ¬ (i : Int) < (n : Int) := by omega
      clear hU hLf hin HU
      go_wp2_with fail
      go_ret
      exact ⟨A1, n, c1, rfl, hLw, hbr⟩
set_option maxRecDepth 100000 in
set_option maxHeartbeats 6400000 in
theorem changed_swap (K : Int) (A : Option Addr) (n c : Nat) (L : List Lt) (w : World) (hA : Lets w A n L) (hc : n ≤ c) :
    Calls Tryd.prog 90 #[.agg #[.int .i64 K, .slice A n c], .func (.func 92) #[] #[]] w (GivesCE w (keepK K L) (keepL K L (swapL L)) (checkE K L)) := by
  have hbc0 := build_code0
  have hbc2 := build_code2
  have hbx : Boxed w ((w.alloc (.cells #[.int .i64 K, .slice A n c] 24)).alloc (.cells #[.int .i64 0, .slice none 0 0] 24)) K A n c := (Boxed.refl w K A n c).alloc _
  have hR0 : Blk ((w.alloc (.cells #[.int .i64 K, .slice A n c] 24)).alloc (.cells #[.int .i64 0, .slice none 0 0] 24)) (w.heap.size + 1) 24 #[.int .i64 0, .slice none 0 0] := heap_alloc2_new w _ _
  obtain ⟨E, hE⟩ : ∃ E, checkE K L = E := ⟨_, rfl⟩
  have HE := Lib.hid hE
  clear hE
  go_enter Tryd.func90, Tryd.ntmps90
  go_wp2_with fail
  generalize (w.alloc (.cells #[.int .i64 K, .slice A n c] 24)).alloc (.cells #[.int .i64 0, .slice none 0 0] 24) = X at hbx hR0 ⊢
  refine (code_read K A n c L _ (hA.below hbx.below)).mono ?_
  rintro e w1 ⟨v, rfl, hb1, hok⟩
  have hX := hR0.lt
  have hsX := hb1.size
  have hR1 := hR0.below hb1 hX
  have hb2 := hbx.more hb1
  have x0 := hb2.c0
  have r0 : w1.cell? ⟨w.heap.size + 1, 0, none⟩ = some (.int .i64 0) := (hR1.cell 0).trans rfl
  have r1 : w1.cell? ⟨w.heap.size + 1, 1, none⟩ = some (.slice none 0 0) := (hR1.cell 1).trans rfl
  have z0 := hR1.frozen 0
  have z1 := hR1.frozen 1
  rw [HE.out]
  by_cases hz : E = 0
  · subst hz
    obtain ⟨p, rfl, k, rfl, hk40, hn400, hp, hcase⟩ := hok HE.out
    have HSM := Lib.hid (tame_of_check HE.out)
    have hdn : DiaN w1 p k A n c L := by
      rcases hcase with ⟨h0, hd⟩ | ⟨_, base, b, g2, g3, g4, g6, s, P, C, ids, _, hF⟩
      · exact ⟨hd.c1, hd.lt, hc, fun h => by omega⟩
      · exact ⟨hF.ranks.dia.c1, hF.ranks.dia.lt, hc, fun _ => ⟨base, b, g2, g3, g4, g6, s, P, C, ids, hF⟩⟩
    have hcl : ∀ wx, Below w1.heap.size w1 wx → Calls Tryd.prog 92 #[.pointer (some ⟨p, 0, none⟩)] wx (GivesL wx (swapL L)) := fun wx h => swap_1 p k A n c L wx (hdn.next h) (hA.below (hb2.more h).below) HSM.out
    have k0 : ∀ wx, Below w1.heap.size w1 wx → wx.cell? ⟨w.heap.size, 0, none⟩ = some (.int .i64 (k : Int)) := fun wx h => (hb2.more h).c0
    have k1 : ∀ wx a1 a2, Below w1.heap.size w1 wx → ((wx.setCell ⟨w.heap.size + 1, 0, none⟩ a1).setCell ⟨w.heap.size + 1, 1, none⟩ a2).cell? ⟨w.heap.size, 0, none⟩ = some (.int .i64 (k : Int)) := fun wx a1 a2 h => by
      rw [World.cell?_setCell_other _ _ _ _ (by intro e; injection e with e; omega), World.cell?_setCell_other _ _ _ _ (by intro e; injection e with e; omega)]
      exact (hb2.more h).c0
    have HCL := Lib.hid hcl
    have KP := Lib.hid k0
    have KS := Lib.hid k1
    have HW := hb2.below
    have hlw : w.heap.size + 1 < w1.heap.size := hR1.lt
    clear hcl k0 k1 hok hcase hdn hb2 hbx hR0 hb1 r0 r1 z0 z1
    go_wp2_with fail
    first
      | go_region_held3 (fun wx => wx.cell? ⟨w.heap.size, 0, none⟩ = some (.int .i64 (k : Int))) (first | assumption | exact KP.out _ (Below.refl _ _).drew | exact KP.out _ (by assumption) | exact KS.out _ _ _ (by assumption))
          ((go_at_call 92; refine (HCL.out _ (Below.refl _ _).drew).mono ?_; rintro e wy ⟨A2, n2, c2, rfl, hL2, hb3⟩; have hbz : Below w1.heap.size w1 wy := below_chain (Below.refl w1.heap.size w1).drew hb3 (Nat.le_refl _); have u0 : wy.cell? ⟨w.heap.size + 1, 0, none⟩ = some (.int .i64 0) := ((hR1.below hbz hlw).cell 0).trans rfl; have u1 : wy.cell? ⟨w.heap.size + 1, 1, none⟩ = some (.slice none 0 0) := ((hR1.below hbz hlw).cell 1).trans rfl; have u2 := (hR1.below hbz hlw).frozen 0; have u3 := (hR1.below hbz hlw).frozen 1))
      | fail
    all_goals
      have hRy := hR1.below (by assumption : Below w1.heap.size w1 wy) hlw
      have hG := copy_ends (w := w) (X := w1) (K := (k : Int)) hRy (by assumption : Below w1.heap.size w1 wy) HW hlw hL2
      clear x0 u0 u1 u2 u3 hRy
      go_wp2_with fail
      (try simp only [Exit.inBlock, Exit.then])
      refine ret_cellT rfl rfl rfl hG.1 Tryd.underlying24 rfl (by kernel_rfl) rfl ?_
      exact ⟨A2, n2, c2, by rw [keepK_ok HE.out, HE.out]; rfl, by rw [keepL_ok HE.out]; exact hG.2.1, hG.2.2⟩
  · have q : (E != 0) = true := by simpa using hz
    have hS : Blk ((w1.setCell ⟨w.heap.size + 1, 0, none⟩ (.int .i64 0)).setCell ⟨w.heap.size + 1, 1, none⟩ (.slice none 0 0)) (w.heap.size + 1) 24 #[.int .i64 0, .slice none 0 0] := (hR1.set_ 0 _).set_ 1 _
    have hbS := (hb2.below.setCell (p := ⟨w.heap.size + 1, 0, none⟩) (by simp) (.int .i64 0)).setCell (p := ⟨w.heap.size + 1, 1, none⟩) (by simp) (.slice none 0 0)
    have HZ := Lib.hid hz
    clear hz hok hR0 hR1 hb1 hbx
    go_wp2_with fail
    (try simp only [Exit.inBlock, Exit.then])
    refine ret_cellT rfl rfl rfl hS Tryd.underlying24 rfl (by kernel_rfl) rfl ?_
    exact ⟨none, 0, 0, by rw [keepK_no (by rw [HE.out]; exact HZ.out), HE.out]; rfl, by rw [keepL_no (by rw [HE.out]; exact HZ.out)]; exact OwnL.nil _ _, hbS⟩
set_option maxRecDepth 100000 in
set_option maxHeartbeats 3200000 in
theorem code_swap (K : Int) (A : Option Addr) (n c : Nat) (L : List Lt) (w : World) (hA : Lets w A n L) (hc : n ≤ c) :
    Calls Tryd.prog 42 #[.agg #[.int .i64 K, .slice A n c]] w (GivesCE w (keepK K L) (keepL K L (swapL L)) (checkE K L)) := by
  have hbx : Boxed w ((w.alloc (.cells #[.int .i64 K, .slice A n c] 24)).alloc (.cells #[.int .i64 0, .slice none 0 0] 24)) K A n c := (Boxed.refl w K A n c).alloc _
  have hR0 : Blk ((w.alloc (.cells #[.int .i64 K, .slice A n c] 24)).alloc (.cells #[.int .i64 0, .slice none 0 0] 24)) (w.heap.size + 1) 24 #[.int .i64 0, .slice none 0 0] := heap_alloc2_new w _ _
  obtain ⟨E, hE⟩ : ∃ E, checkE K L = E := ⟨_, rfl⟩
  obtain ⟨K2, hK2⟩ : ∃ K2 : Int, keepK K L = K2 := ⟨_, rfl⟩
  obtain ⟨M, hM⟩ : ∃ M : List Lt, keepL K L (swapL L) = M := ⟨_, rfl⟩
  have hch := fun wx (h : Lets wx A n L) => changed_swap K A n c L wx h hc
  rw [hE, hK2, hM] at hch ⊢
  have HCH := Lib.hid hch
  clear hch hE hK2 hM
  go_enter Tryd.func42, Tryd.ntmps42
  go_wp2_with fail
  generalize (w.alloc (.cells #[.int .i64 K, .slice A n c] 24)).alloc (.cells #[.int .i64 0, .slice none 0 0] 24) = X at hbx hR0 ⊢
  refine (HCH.out _ (hA.below hbx.below)).mono ?_
  rintro e w1 ⟨A1, n1, c1, rfl, hL1, hb1⟩
  have hX := hR0.lt
  have hR1 := hR0.below hb1 hX
  have r0 : w1.cell? ⟨w.heap.size + 1, 0, none⟩ = some (.int .i64 0) := (hR1.cell 0).trans rfl
  have r1 : w1.cell? ⟨w.heap.size + 1, 1, none⟩ = some (.slice none 0 0) := (hR1.cell 1).trans rfl
  have z0 := hR1.frozen 0
  have z1 := hR1.frozen 1
  have hG := copy_ends (w := w) (X := X) (K := K2) hR1 hb1 hbx.below hX hL1
  clear hR0 hR1 hbx hb1
  go_wp2_with fail
  (try simp only [Exit.inBlock, Exit.then])
  refine ret_cellT rfl rfl rfl hG.1 Tryd.underlying24 rfl (by kernel_rfl) rfl ?_
  exact ⟨A1, n1, c1, rfl, hG.2.1, hG.2.2⟩
end Go.Proofs.YtkjcmppaapbabaaDoor
