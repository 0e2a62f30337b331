/-
  Contract: the program's Mirror. Conditions: the letters read.
-/
import Derived.Test.YtkjcmppaapbabaaDoorT7
namespace Go.Proofs.YtkjcmppaapbabaaDoor
open Go.RowKit
set_option maxRecDepth 100000 in
set_option maxHeartbeats 6400000 in
theorem mirror_1 (p k : Nat) (A : Option Addr) (n c : Nat) (L : List Lt) (w : World) (hd : DiaN w p k A n c L) (hA : Lets w A n L) (hs : Tame (k : Int) L) :
    Calls Tryd.prog 93 #[.pointer (some ⟨p, 0, none⟩)] w (GivesL w (mirrorL (k : Int) L)) := by
  have hle := hA.le
  have hLn := Lib.hid hA.len
  have hn4 : n ≤ 400 := by have := hs.len; have := hA.len; omega
  have hk4 := hs.hi
  have HS := Lib.hid hs
  obtain ⟨d1, d2, d3, d4⟩ := hd
  have HD4 := Lib.hid d4
  clear d4 hs
  go_enter Tryd.func93, Tryd.ntmps93
  go_wp2_with fail
  refine (clone_letters A n c L _ hA).mono ?_
  rintro e w1 ⟨A1, c1, rfl, hown, hb1⟩
  have hst : Hid (Upto (mrLt (k : Int) L) L L 0) := Lib.hid (Upto.zero _ _)
  clear d1
  go_wp2_with fail
  go_loopw [4, 5, 14] (fun _ _ v14 wr => ∃ (i : Nat) (Lw : List Lt), i ≤ n ∧ v14 = .int .i64 i ∧ OwnL wr w.heap.size A1 n c1 Lw ∧ Below w.heap.size w wr ∧ Hid (Upto (mrLt (k : Int) L) L Lw i)) (fun _ _ v14 _ => n - (intOf v14).toNat)
  case atStart => exact ⟨0, L, Nat.zero_le _, rfl, hown, hb1, hst⟩
  case round =>
    obtain ⟨i, Lw, hi, rfl, hLw, hbr, HU⟩ := hrel
    clear hown hb1 hst
    by_cases hlt : i < n
    · obtain ⟨gg, o, rfl, hgg, hx, hok⟩ := hLw.lets.at_ hlt
      have hlw : la Lw i = la L i := by rw [HU.out.2 i (by rw [hLn.out]; exact hlt), if_neg (by omega)]
      have hgi : Lw[i]? = some (la L i) := by rw [la_get (by rw [hLw.len]; exact hlt), hlw]
      rw [hlw] at hx hok
      obtain ⟨y0, y1, y2, y3, y4, y5⟩ := hx
      have i0 : (0 : Int) ≤ (i : Int) := by omega
      have i1 : (i : Int) < (n : Int) := by omega
      have hcap := hLw.row.cap
      have hgb := (hLw.row.at_ _ rfl).2.1
      simp only [] at hgb
      have hszr := hbr.size
      have HOK := Lib.hid hok
      have HGI := Lib.hid hgi
      have m3 : gg ≠ wr.heap.size := by omega
      obtain ⟨base, b, g2, g3, g4, g6, s, P, C, ids, hF⟩ := HD4.out (by omega)
      have hFr := hF.next hbr
      have hLW := hLw.alloc (.cells #[.int .i64 (la L i).kind, .int .i64 (la L i).gate, .int .i64 (la L i).rank, .int .i64 (la L i).id, .int .i64 (la L i).sign, .bool (la L i).over] 46)
      have hBl := Blk.new wr 46 #[.int .i64 (la L i).kind, .int .i64 (la L i).gate, .int .i64 (la L i).rank, .int .i64 (la L i).id, .int .i64 (la L i).sign, .bool (la L i).over]
      have hWr : Below wr.heap.size wr (wr.alloc (.cells #[.int .i64 (la L i).kind, .int .i64 (la L i).gate, .int .i64 (la L i).rank, .int .i64 (la L i).id, .int .i64 (la L i).sign, .bool (la L i).over] 46)) := (Below.refl _ _).alloc (Nat.le_refl _) _
      have hgd : gg ≠ p ∧ gg ≠ g6 := by
        have m1 := hF.ranks.dia.lt
        have m2 := hF.ranks.count.lt
        omega
      obtain ⟨m4, m5⟩ := hgd
      clear hok hgi hlw
      go_upto_region 5 with fail
      generalize wr.alloc (.cells #[.int .i64 (la L i).kind, .int .i64 (la L i).gate, .int .i64 (la L i).rank, .int .i64 (la L i).id, .int .i64 (la L i).sign, .bool (la L i).over] 46) = W at hLW hBl hWr ⊢
      have hbW := below_chain hbr hWr hbr.size
      have hFW := hFr.next hWr
      have s0 : W.cell? ⟨wr.heap.size, 0, none⟩ = some (.int .i64 (la L i).kind) := (hBl.cell 0).trans rfl
      have s3 : W.cell? ⟨wr.heap.size, 1, none⟩ = some (.int .i64 (la L i).gate) := (hBl.cell 1).trans rfl
      have s4 : W.cell? ⟨wr.heap.size, 2, none⟩ = some (.int .i64 (la L i).rank) := (hBl.cell 2).trans rfl
      have s5 : W.cell? ⟨wr.heap.size, 4, none⟩ = some (.int .i64 (la L i).sign) := (hBl.cell 4).trans rfl
      have t1 : W.cell? ⟨gg, o + i * 6 + 1, none⟩ = some (.int .i64 (la L i).gate) := (hWr.cell (p := ⟨gg, o + i * 6 + 1, none⟩) hgg).trans y1
      have t2 : W.cell? ⟨gg, o + i * 6 + 2, none⟩ = some (.int .i64 (la L i).rank) := (hWr.cell (p := ⟨gg, o + i * 6 + 2, none⟩) hgg).trans y2
      have t4 : W.cell? ⟨gg, o + i * 6 + 4, none⟩ = some (.int .i64 (la L i).sign) := (hWr.cell (p := ⟨gg, o + i * 6 + 4, none⟩) hgg).trans y4
      have f1 : W.frozen? ⟨gg, o + i * 6 + 1, none⟩ = false := hLW.row.free (j := i * 6 + 1) (by omega)
      have f2 : W.frozen? ⟨gg, o + i * 6 + 2, none⟩ = false := hLW.row.free (j := i * 6 + 2) (by omega)
      have f4 : W.frozen? ⟨gg, o + i * 6 + 4, none⟩ = false := hLW.row.free (j := i * 6 + 4) (by omega)
      clear y0 y1 y2 y3 y4 y5 hLw hbr hWr hBl hFr hF
      by_cases hk1 : (la L i).kind = 1
      · have q1 : ((la L i).kind == 1) = true := by simpa using hk1
        have hp := isP_t hk1
        obtain ⟨b1, b2, b3, b4⟩ := HS.out.pass i (by rw [hLn.out]; exact hlt) hp
        obtain ⟨g, hg⟩ : ∃ g : Nat, (la L i).gate = (g : Int) := ⟨(la L i).gate.toNat, by omega⟩
        obtain ⟨G, hG⟩ : ∃ G : Nat, gN L (g : Int) n = G := ⟨_, rfl⟩
        have hgn : G ≤ n := by rw [← hG]; exact gN_lt L _ n
        have hHU := HU.out.set (by rw [hLn.out]; exact hlt) (x := { la L i with gate := (k : Int) - (g : Int), rank := (G : Int) + 1 - (la L i).rank }) (by rw [mr_p hp, hLn.out, hg, hG])
        have hok1 : LtOk { la L i with gate := (k : Int) - (g : Int) } := ⟨HOK.out.kind, ⟨by simp only []; omega, by simp only []; omega⟩, HOK.out.rank, HOK.out.id, HOK.out.sign⟩
        have hok2 : LtOk { la L i with gate := (k : Int) - (g : Int), rank := (G : Int) + 1 - (la L i).rank } := ⟨HOK.out.kind, hok1.gate, ⟨by simp only []; omega, by simp only []; omega⟩, HOK.out.id, HOK.out.sign⟩
        have hL1 := hLW.put (i := 1) (u := .int .i64 ((k : Int) - (g : Int))) (x' := { la L i with gate := (k : Int) - (g : Int) }) HGI.out (by omega) rfl hok1 rfl
        have hL2 := hL1.put (i := 2) (j := i) (x := { la L i with gate := (k : Int) - (g : Int) }) (u := .int .i64 ((G : Int) + 1 - (la L i).rank)) (x' := { la L i with gate := (k : Int) - (g : Int), rank := (G : Int) + 1 - (la L i).rank }) (by rw [List.getElem?_set_self (by rw [hLW.len]; exact hlt)]) (by omega) rfl hok2 rfl
        rw [List.set_set] at hL2
        have hb5 := (hbW.setCell (p := ⟨gg, o + (i * 6 + 1), none⟩) hgb (.int .i64 ((k : Int) - (g : Int)))).setCell (p := ⟨gg, o + (i * 6 + 2), none⟩) hgb (.int .i64 ((G : Int) + 1 - (la L i).rank))
        have hcc := hFW.ranks.count.cell (hFW.ranks.counts g (by omega))
        rw [hG] at hcc
        have c0 := hFW.ranks.dia.c0
        have c6 := hFW.ranks.dia.c6
        have m6 : (0 : Int) ≤ (g : Int) := by omega
        have m7 : (g : Int) < (k : Int) + 1 := by omega
        have HU1 := Lib.hid hHU
        rw [hg] at s3 t1
        have HG := Lib.hid hG
        have HGG := Lib.hid hg
        clear HU hHU hk1 hp hok1 hok2 hL1 hLW hbW hFW hg hG
        go_wp2_with fail
        go_region
        go_wp2_with fail
        go_roundw
        case rel => exact ⟨i + 1, _, by omega, by go_num, by first | exact hL2 | exact hL2.next (Below.refl _ _).drew, by first | exact hb5 | exact hb5.drew, HU1⟩
        case measure => simp [intOf]; omega
      · have q1 : ((la L i).kind == 1) = false := by simpa using hk1
        have hc2 : isC (la L i) = true := by
          rcases HS.out.kinds i (by rw [hLn.out]; exact hlt) with h | h
          · unfold isP at h; simp at h; exact absurd h hk1
          · exact h
        have hsg := HS.out.sign i (by rw [hLn.out]; exact hlt) hc2
        have b0 : -1 ≤ (la L i).sign := by omega
        have b1 : (la L i).sign ≤ 1 := by omega
        have v1 : IntKind.i64.wrap (-(la L i).sign) = -(la L i).sign := IntWalk.i64_in _ (by omega)
        have HU1 := Lib.hid (HU.out.set (by rw [hLn.out]; exact hlt) (mr_n (K := (k : Int)) (L := L) (isP_f hk1)).symm)
        have hok1 : LtOk { la L i with sign := -(la L i).sign } := ⟨HOK.out.kind, HOK.out.gate, HOK.out.rank, HOK.out.id, ⟨by simp only []; omega, by simp only []; omega⟩⟩
        have hL1 := hLW.put (i := 4) (u := .int .i64 (-(la L i).sign)) (x' := { la L i with sign := -(la L i).sign }) HGI.out (by omega) rfl hok1 rfl
        have hb5 := hbW.setCell (p := ⟨gg, o + (i * 6 + 4), none⟩) hgb (.int .i64 (-(la L i).sign))
        clear hk1 HU hsg hc2 hok1 hLW hbW hFW
        go_wp2_with fail
        go_roundw
        case rel => exact ⟨i + 1, _, by omega, by go_num, hL1, hb5, HU1⟩
        case measure => simp [intOf]; omega
    · have hin : i = n := by omega
      have hU := HU.out
      rw [hin, ← hLn.out] at hU
      have hLf := hU.all
      rw [hLf] at hLw
      have i1 : ¬ (i : Int) < (n : Int) := by omega
      clear hU hLf hin HU
      go_wp2_with fail
      go_ret
      exact ⟨A1, n, c1, rfl, hLw, hbr⟩
set_option maxRecDepth 100000 in
set_option maxHeartbeats 6400000 in
theorem changed_mirror (K : Int) (A : Option Addr) (n c : Nat) (L : List Lt) (w : World) (hA : Lets w A n L) (hc : n ≤ c) :
    Calls Tryd.prog 90 #[.agg #[.int .i64 K, .slice A n c], .func (.func 93) #[] #[]] w (GivesCE w (keepK K L) (keepL K L (mirrorL K L)) (checkE K L)) := by
  have hbc0 := build_code0
  have hbc2 := build_code2
  have hbx : Boxed w ((w.alloc (.cells #[.int .i64 K, .slice A n c] 24)).alloc (.cells #[.int .i64 0, .slice none 0 0] 24)) K A n c := (Boxed.refl w K A n c).alloc _
  have hR0 : Blk ((w.alloc (.cells #[.int .i64 K, .slice A n c] 24)).alloc (.cells #[.int .i64 0, .slice none 0 0] 24)) (w.heap.size + 1) 24 #[.int .i64 0, .slice none 0 0] := heap_alloc2_new w _ _
  obtain ⟨E, hE⟩ : ∃ E, checkE K L = E := ⟨_, rfl⟩
  have HE := Lib.hid hE
  clear hE
  go_enter Tryd.func90, Tryd.ntmps90
  go_wp2_with fail
  generalize (w.alloc (.cells #[.int .i64 K, .slice A n c] 24)).alloc (.cells #[.int .i64 0, .slice none 0 0] 24) = X at hbx hR0 ⊢
  refine (code_read K A n c L _ (hA.below hbx.below)).mono ?_
  rintro e w1 ⟨v, rfl, hb1, hok⟩
  have hX := hR0.lt
  have hsX := hb1.size
  have hR1 := hR0.below hb1 hX
  have hb2 := hbx.more hb1
  have x0 := hb2.c0
  have r0 : w1.cell? ⟨w.heap.size + 1, 0, none⟩ = some (.int .i64 0) := (hR1.cell 0).trans rfl
  have r1 : w1.cell? ⟨w.heap.size + 1, 1, none⟩ = some (.slice none 0 0) := (hR1.cell 1).trans rfl
  have z0 := hR1.frozen 0
  have z1 := hR1.frozen 1
  rw [HE.out]
  by_cases hz : E = 0
  · subst hz
    obtain ⟨p, rfl, k, rfl, hk40, hn400, hp, hcase⟩ := hok HE.out
    have HSM := Lib.hid (tame_of_check HE.out)
    have hdn : DiaN w1 p k A n c L := by
      rcases hcase with ⟨h0, hd⟩ | ⟨_, base, b, g2, g3, g4, g6, s, P, C, ids, _, hF⟩
      · exact ⟨hd.c1, hd.lt, hc, fun h => by omega⟩
      · exact ⟨hF.ranks.dia.c1, hF.ranks.dia.lt, hc, fun _ => ⟨base, b, g2, g3, g4, g6, s, P, C, ids, hF⟩⟩
    have hcl : ∀ wx, Below w1.heap.size w1 wx → Calls Tryd.prog 93 #[.pointer (some ⟨p, 0, none⟩)] wx (GivesL wx (mirrorL (k : Int) L)) := fun wx h => mirror_1 p k A n c L wx (hdn.next h) (hA.below (hb2.more h).below) HSM.out
    have k0 : ∀ wx, Below w1.heap.size w1 wx → wx.cell? ⟨w.heap.size, 0, none⟩ = some (.int .i64 (k : Int)) := fun wx h => (hb2.more h).c0
    have k1 : ∀ wx a1 a2, Below w1.heap.size w1 wx → ((wx.setCell ⟨w.heap.size + 1, 0, none⟩ a1).setCell ⟨w.heap.size + 1, 1, none⟩ a2).cell? ⟨w.heap.size, 0, none⟩ = some (.int .i64 (k : Int)) := fun wx a1 a2 h => by
      rw [World.cell?_setCell_other _ _ _ _ (by intro e; injection e with e; omega), World.cell?_setCell_other _ _ _ _ (by intro e; injection e with e; omega)]
      exact (hb2.more h).c0
    have HCL := Lib.hid hcl
    have KP := Lib.hid k0
    have KS := Lib.hid k1
    have HW := hb2.below
    have hlw : w.heap.size + 1 < w1.heap.size := hR1.lt
    clear hcl k0 k1 hok hcase hdn hb2 hbx hR0 hb1 r0 r1 z0 z1
    go_wp2_with fail
    first
      | go_region_held3 (fun wx => wx.cell? ⟨w.heap.size, 0, none⟩ = some (.int .i64 (k : Int))) (first | assumption | exact KP.out _ (Below.refl _ _).drew | exact KP.out _ (by assumption) | exact KS.out _ _ _ (by assumption))
          ((go_at_call 93; refine (HCL.out _ (Below.refl _ _).drew).mono ?_; rintro e wy ⟨A2, n2, c2, rfl, hL2, hb3⟩; have hbz : Below w1.heap.size w1 wy := below_chain (Below.refl w1.heap.size w1).drew hb3 (Nat.le_refl _); have u0 : wy.cell? ⟨w.heap.size + 1, 0, none⟩ = some (.int .i64 0) := ((hR1.below hbz hlw).cell 0).trans rfl; have u1 : wy.cell? ⟨w.heap.size + 1, 1, none⟩ = some (.slice none 0 0) := ((hR1.below hbz hlw).cell 1).trans rfl; have u2 := (hR1.below hbz hlw).frozen 0; have u3 := (hR1.below hbz hlw).frozen 1))
      | fail
    all_goals
      have hRy := hR1.below (by assumption : Below w1.heap.size w1 wy) hlw
      have hG := copy_ends (w := w) (X := w1) (K := (k : Int)) hRy (by assumption : Below w1.heap.size w1 wy) HW hlw hL2
      clear x0 u0 u1 u2 u3 hRy
      go_wp2_with fail
      (try simp only [Exit.inBlock, Exit.then])
      refine ret_cellT rfl rfl rfl hG.1 Tryd.underlying24 rfl (by kernel_rfl) rfl ?_
      exact ⟨A2, n2, c2, by rw [keepK_ok HE.out, HE.out]; rfl, by rw [keepL_ok HE.out]; exact hG.2.1, hG.2.2⟩
  · have q : (E != 0) = true := by simpa using hz
    have hS : Blk ((w1.setCell ⟨w.heap.size + 1, 0, none⟩ (.int .i64 0)).setCell ⟨w.heap.size + 1, 1, none⟩ (.slice none 0 0)) (w.heap.size + 1) 24 #[.int .i64 0, .slice none 0 0] := (hR1.set_ 0 _).set_ 1 _
    have hbS := (hb2.below.setCell (p := ⟨w.heap.size + 1, 0, none⟩) (by simp) (.int .i64 0)).setCell (p := ⟨w.heap.size + 1, 1, none⟩) (by simp) (.slice none 0 0)
    have HZ := Lib.hid hz
    clear hz hok hR0 hR1 hb1 hbx
    go_wp2_with fail
    (try simp only [Exit.inBlock, Exit.then])
    refine ret_cellT rfl rfl rfl hS Tryd.underlying24 rfl (by kernel_rfl) rfl ?_
    exact ⟨none, 0, 0, by rw [keepK_no (by rw [HE.out]; exact HZ.out), HE.out]; rfl, by rw [keepL_no (by rw [HE.out]; exact HZ.out)]; exact OwnL.nil _ _, hbS⟩
set_option maxRecDepth 100000 in
set_option maxHeartbeats 3200000 in
theorem code_mirror (K : Int) (A : Option Addr) (n c : Nat) (L : List Lt) (w : World) (hA : Lets w A n L) (hc : n ≤ c) :
    Calls Tryd.prog 43 #[.agg #[.int .i64 K, .slice A n c]] w (GivesCE w (keepK K L) (keepL K L (mirrorL K L)) (checkE K L)) := by
  have hbx : Boxed w ((w.alloc (.cells #[.int .i64 K, .slice A n c] 24)).alloc (.cells #[.int .i64 0, .slice none 0 0] 24)) K A n c := (Boxed.refl w K A n c).alloc _
  have hR0 : Blk ((w.alloc (.cells #[.int .i64 K, .slice A n c] 24)).alloc (.cells #[.int .i64 0, .slice none 0 0] 24)) (w.heap.size + 1) 24 #[.int .i64 0, .slice none 0 0] := heap_alloc2_new w _ _
  obtain ⟨E, hE⟩ : ∃ E, checkE K L = E := ⟨_, rfl⟩
  obtain ⟨K2, hK2⟩ : ∃ K2 : Int, keepK K L = K2 := ⟨_, rfl⟩
  obtain ⟨M, hM⟩ : ∃ M : List Lt, keepL K L (mirrorL K L) = M := ⟨_, rfl⟩
  have hch := fun wx (h : Lets wx A n L) => changed_mirror K A n c L wx h hc
  rw [hE, hK2, hM] at hch ⊢
  have HCH := Lib.hid hch
  clear hch hE hK2 hM
  go_enter Tryd.func43, Tryd.ntmps43
  go_wp2_with fail
  generalize (w.alloc (.cells #[.int .i64 K, .slice A n c] 24)).alloc (.cells #[.int .i64 0, .slice none 0 0] 24) = X at hbx hR0 ⊢
  refine (HCH.out _ (hA.below hbx.below)).mono ?_
  rintro e w1 ⟨A1, n1, c1, rfl, hL1, hb1⟩
  have hX := hR0.lt
  have hR1 := hR0.below hb1 hX
  have r0 : w1.cell? ⟨w.heap.size + 1, 0, none⟩ = some (.int .i64 0) := (hR1.cell 0).trans rfl
  have r1 : w1.cell? ⟨w.heap.size + 1, 1, none⟩ = some (.slice none 0 0) := (hR1.cell 1).trans rfl
  have z0 := hR1.frozen 0
  have z1 := hR1.frozen 1
  have hG := copy_ends (w := w) (X := X) (K := K2) hR1 hb1 hbx.below hX hL1
  clear hR0 hR1 hbx hb1
  go_wp2_with fail
  (try simp only [Exit.inBlock, Exit.then])
  refine ret_cellT rfl rfl rfl hG.1 Tryd.underlying24 rfl (by kernel_rfl) rfl ?_
  exact ⟨A1, n1, c1, rfl, hG.2.1, hG.2.2⟩
end Go.Proofs.YtkjcmppaapbabaaDoor
