/-
  Contracts: the document's Mirror, the program's Mirror. Conditions: the letters read and are tame.
-/
import Derived.Test.YtkjcmppaapbabaaDoorT6
import Derived.Deep.RegionHeld3
namespace Go.Proofs.YtkjcmppaapbabaaDoor
open Go.RowKit
set_option maxRecDepth 100000 in
set_option maxHeartbeats 6400000 in
theorem cref_Mirror (K : Int) (A : Option Addr) (n c : Nat) (L : List Lt) (w : World) (hA : Lets w A n L) (hs : Tame K L) :
    Calls Tryd.prog 47 #[.agg #[.int .i64 K, .slice A n c]] w (GivesC w K (mirrorL K L)) := by
  have hle := hA.le
  have hLn := Lib.hid hA.len
  have hK0 := hs.lo
  have hK4 := hs.hi
  have HS := Lib.hid hs
  have hn4 : n ≤ 400 := by have := hs.len; have := hA.len; omega
  have hbx : Boxed w ((w.alloc (.cells #[.int .i64 K, .slice A n c] 24)).alloc (.cells #[.int .i64 0, .slice none 0 0] 24)) K A n c := (Boxed.refl w K A n c).alloc _
  have hR0 : Blk ((w.alloc (.cells #[.int .i64 K, .slice A n c] 24)).alloc (.cells #[.int .i64 0, .slice none 0 0] 24)) (w.heap.size + 1) 24 #[.int .i64 0, .slice none 0 0] := heap_alloc2_new w _ _
  clear hs
  go_enter Tryd.func47, Tryd.ntmps47
  go_wp2_with fail
  generalize (w.alloc (.cells #[.int .i64 K, .slice A n c] 24)).alloc (.cells #[.int .i64 0, .slice none 0 0] 24) = X at hbx hR0 ⊢
  refine (cref_Copy K A n c L _ (hA.below hbx.below)).mono ?_
  rintro e w1 ⟨A1, n1, c1, rfl, hown, hb1⟩
  obtain rfl : n1 = n := by rw [← hown.len, hLn.out]
  have hX := hR0.lt
  have hsz1 := hb1.size
  have hC0 : Cpy X (w1.alloc (.cells #[.int .i64 K, .slice A1 n1 c1] 24)) w1.heap.size K A1 n1 c1 L :=
    ⟨hown.alloc _, Blk.new _ _ _, fun q hq => Nat.ne_of_lt (hown.row.lt q hq).2, hb1.alloc hsz1 _⟩
  have hst : Hid (Upto (mrLt K L) L L 0) := Lib.hid (Upto.zero _ _)
  clear hb1 hown
  go_wp2_with fail
  go_loopw [4] (fun v4 wr => ∃ (i : Nat) (Lw : List Lt), i ≤ n1 ∧ v4 = .int .i64 i ∧ Cpy X wr w1.heap.size K A1 n1 c1 Lw ∧ Hid (Upto (mrLt K L) L Lw i)) (fun v4 _ => n1 - (intOf v4).toNat)
  case atStart => exact ⟨0, L, Nat.zero_le _, rfl, hC0, hst⟩
  case round =>
    obtain ⟨i, Lw, hi, rfl, hC, HU⟩ := hrel
    clear hC0 hst
    have hbw := below_chain hbx.below hC.old (by omega)
    have o1 := hC.c1
    have e0 := (hbx.more hC.old).c0
    have e1 := (hbx.more hC.old).c1
    have hszr := hC.old.size
    have hblt := hC.bk.lt
    by_cases hlt : i < n1
    · obtain ⟨ga, oa, rfl, hga, hxa, hok⟩ := (hA.below hbw).at_ hlt
      obtain ⟨gg, o, rfl, hgg, hx, _⟩ := hC.own.lets.at_ hlt
      have hlw : la Lw i = la L i := by rw [HU.out.2 i (by rw [hLn.out]; exact hlt), if_neg (by omega)]
      have hgi : Lw[i]? = some (la L i) := by rw [la_get (by rw [hC.own.len]; exact hlt), hlw]
      rw [hlw] at hx
      obtain ⟨y0, y1, y2, y3, y4, y5⟩ := hx
      obtain ⟨z0, z1, z2, z3, z4, z5⟩ := hxa
      have i0 : (0 : Int) ≤ (i : Int) := by omega
      have i1 : (i : Int) < (n1 : Int) := by omega
      have m1 : gg ≠ w1.heap.size := hC.far gg rfl
      have hgX : X.heap.size ≤ gg := (hC.own.row.at_ _ rfl).2.1
      have m3 : gg ≠ wr.heap.size := by omega
      have HOK := Lib.hid hok
      have HGI := Lib.hid hgi
      clear hok hgi hlw
      have hCW := hC.alloc (.cells #[.int .i64 (la L i).kind, .int .i64 (la L i).gate, .int .i64 (la L i).rank, .int .i64 (la L i).id, .int .i64 (la L i).sign, .bool (la L i).over] 46)
      have hBl := Blk.new wr 46 #[.int .i64 (la L i).kind, .int .i64 (la L i).gate, .int .i64 (la L i).rank, .int .i64 (la L i).id, .int .i64 (la L i).sign, .bool (la L i).over]
      have hWr : Below wr.heap.size wr (wr.alloc (.cells #[.int .i64 (la L i).kind, .int .i64 (la L i).gate, .int .i64 (la L i).rank, .int .i64 (la L i).id, .int .i64 (la L i).sign, .bool (la L i).over] 46)) := (Below.refl _ _).alloc (Nat.le_refl _) _
      go_upto_region 6 with fail
      generalize wr.alloc (.cells #[.int .i64 (la L i).kind, .int .i64 (la L i).gate, .int .i64 (la L i).rank, .int .i64 (la L i).id, .int .i64 (la L i).sign, .bool (la L i).over] 46) = W at hCW hBl hWr ⊢
      have s0 : W.cell? ⟨w.heap.size, 0, none⟩ = some (.int .i64 K) := (hWr.cell (p := ⟨w.heap.size, 0, none⟩) (by simp; omega)).trans e0
      have s1 : W.cell? ⟨w.heap.size, 1, none⟩ = some (.slice (some ⟨ga, oa, none⟩) n1 c) := (hWr.cell (p := ⟨w.heap.size, 1, none⟩) (by simp; omega)).trans e1
      have s2 := hCW.c1
      have s3 : W.cell? ⟨wr.heap.size, 0, none⟩ = some (.int .i64 (la L i).kind) := (hBl.cell 0).trans rfl
      have s4 : W.cell? ⟨wr.heap.size, 1, none⟩ = some (.int .i64 (la L i).gate) := (hBl.cell 1).trans rfl
      have s6 : W.cell? ⟨wr.heap.size, 4, none⟩ = some (.int .i64 (la L i).sign) := (hBl.cell 4).trans rfl
      have t1 : W.cell? ⟨gg, o + i * 6 + 1, none⟩ = some (.int .i64 (la L i).gate) := (hWr.cell (p := ⟨gg, o + i * 6 + 1, none⟩) hgg).trans y1
      have t4 : W.cell? ⟨gg, o + i * 6 + 4, none⟩ = some (.int .i64 (la L i).sign) := (hWr.cell (p := ⟨gg, o + i * 6 + 4, none⟩) hgg).trans y4
      have f1 := hCW.free hlt (i := 1) (by omega)
      have f4 := hCW.free hlt (i := 4) (by omega)
      have hwW : Below w.heap.size w W := below_chain hbw hWr (by have := hbx.below.size; omega)
      have hWs : wr.heap.size < W.heap.size := hBl.lt
      have hgW : gg < W.heap.size := by omega
      clear o1 e0 e1 y0 y1 y2 y3 y4 y5 z0 z1 z2 z3 z4 z5 hC hWr
      by_cases hk1 : (la L i).kind = 1
      · have q1 : ((la L i).kind == 1) = true := by simpa using hk1
        have hp := isP_t hk1
        obtain ⟨b1, b2, b3, b4⟩ := HS.out.pass i (by rw [hLn.out]; exact hlt) hp
        obtain ⟨g, hg⟩ : ∃ g : Nat, (la L i).gate = (g : Int) := ⟨(la L i).gate.toNat, by omega⟩
        obtain ⟨G, hG⟩ : ∃ G : Nat, gN L (la L i).gate n1 = G := ⟨_, rfl⟩
        have hgn : G ≤ n1 := by rw [← hG]; exact gN_lt L _ n1
        have HU1 := Lib.hid (HU.out.set (by rw [hLn.out]; exact hlt) (x := { la L i with gate := K - (la L i).gate, rank := (G : Int) + 1 - (la L i).rank }) (by rw [mr_p hp, hLn.out, hG]))
        have hok1 : LtOk { la L i with gate := K - (la L i).gate } := ⟨HOK.out.kind, ⟨by simp only []; omega, by simp only []; omega⟩, HOK.out.rank, HOK.out.id, HOK.out.sign⟩
        have hok2 : LtOk { la L i with gate := K - (la L i).gate, rank := (G : Int) + 1 - (la L i).rank } := ⟨HOK.out.kind, hok1.gate, ⟨by simp only []; omega, by simp only []; omega⟩, HOK.out.id, HOK.out.sign⟩
        have hC1 : Cpy X (W.setCell ⟨gg, o + i * 6 + 1, none⟩ (.int .i64 (K - (la L i).gate))) w1.heap.size K (some ⟨gg, o, none⟩) n1 c1 (Lw.set i { la L i with gate := K - (la L i).gate }) := hCW.put (i := 1) (u := .int .i64 (K - (la L i).gate)) (x' := { la L i with gate := K - (la L i).gate }) HGI.out (by omega) rfl hok1 rfl
        have hBV : Blk (W.setCell ⟨gg, o + i * 6 + 1, none⟩ (.int .i64 (K - (la L i).gate))) wr.heap.size 46 #[.int .i64 (la L i).kind, .int .i64 (la L i).gate, .int .i64 (la L i).rank, .int .i64 (la L i).id, .int .i64 (la L i).sign, .bool (la L i).over] := hBl.far (fun e => m3 e.symm) _
        have hwV : Below X.heap.size W (W.setCell ⟨gg, o + i * 6 + 1, none⟩ (.int .i64 (K - (la L i).gate))) := (Below.refl _ _).setCell (p := ⟨gg, o + i * 6 + 1, none⟩) hgX _
        have hVs : (W.setCell ⟨gg, o + i * 6 + 1, none⟩ (.int .i64 (K - (la L i).gate))).heap.size = W.heap.size := by simp [World.setCell]
        have HVS := Lib.hid hVs
        have HK2 := Lib.hid hok2
        have HG := Lib.hid hG
        have HP := Lib.hid hp
        have hlw1 : i < Lw.length := by rw [hCW.own.len]; exact hlt
        have HLW1 := Lib.hid hlw1
        clear HU hk1 hok1 hok2 hVs hlw1 hp hg hG
        go_upto_region 8 with fail
        generalize W.setCell ⟨gg, o + i * 6 + 1, none⟩ (.int .i64 (K - (la L i).gate)) = V at hC1 hBV hwV HVS ⊢
        have hVe := HVS.out
        have hww : w.heap.size + 1 < X.heap.size := hX
        have w0 : V.cell? ⟨w.heap.size, 0, none⟩ = some (.int .i64 K) := (hwV.cell (p := ⟨w.heap.size, 0, none⟩) (by simp; omega)).trans s0
        have w2 : V.cell? ⟨w.heap.size, 1, none⟩ = some (.slice (some ⟨ga, oa, none⟩) n1 c) := (hwV.cell (p := ⟨w.heap.size, 1, none⟩) (by simp; omega)).trans s1
        have w3 := hC1.c1
        have w4 : V.cell? ⟨wr.heap.size, 2, none⟩ = some (.int .i64 (la L i).rank) := (hBV.cell 2).trans rfl
        have w5 : V.cell? ⟨wr.heap.size, 1, none⟩ = some (.int .i64 (la L i).gate) := (hBV.cell 1).trans rfl
        have hx5 := (hC1.own.lets.also hlt).1
        rw [la_set HLW1.out, if_pos rfl] at hx5
        have w6 : V.cell? ⟨gg, o + i * 6 + 2, none⟩ = some (.int .i64 (la L i).rank) := hx5.rank
        have w7 := hC1.free hlt (i := 2) (by omega)
        have hwV2 : Below w.heap.size w V := hwW.trans (hwV.mono (by omega))
        have k1 : ∀ wx, Below V.heap.size V wx → Calls Tryd.prog 89 #[.agg #[.int .i64 K, .slice (some ⟨ga, oa, none⟩) n1 c], .int .i64 (la L i).gate] wx fun e w' => e = .returned (.int .i64 (G : Int)) ∧ Below wx.heap.size wx w' := fun wx h => by
          rw [← HG.out]
          exact ref_In K _ _ n1 c L wx (hA.below (below_chain hwV2 h (by omega)))
        have v1 : IntKind.i64.wrap ((G : Int) + 1) = (G : Int) + 1 := IntWalk.i64_in _ (by omega)
        have v2 : IntKind.i64.wrap ((G : Int) + 1 - (la L i).rank) = (G : Int) + 1 - (la L i).rank := IntWalk.i64_in _ (by omega)
        have hgV : gg < V.heap.size := by omega
        have hVl : wr.heap.size < V.heap.size := by omega
        have hVo : w1.heap.size < V.heap.size := by omega
        have k2 : ∀ wx, Below V.heap.size V wx → (Below X.heap.size V wx ∧ wx.cell? ⟨w.heap.size, 0, none⟩ = some (.int .i64 K) ∧ wx.cell? ⟨w.heap.size, 1, none⟩ = some (.slice (some ⟨ga, oa, none⟩) n1 c) ∧ wx.cell? ⟨w1.heap.size, 1, none⟩ = some (.slice (some ⟨gg, o, none⟩) n1 c1) ∧ wx.cell? ⟨wr.heap.size, 2, none⟩ = some (.int .i64 (la L i).rank) ∧ wx.cell? ⟨wr.heap.size, 1, none⟩ = some (.int .i64 (la L i).gate)) := fun wx h =>
          ⟨h.mono (by omega), (h.cell (p := ⟨w.heap.size, 0, none⟩) (by simp; omega)).trans w0, (h.cell (p := ⟨w.heap.size, 1, none⟩) (by simp; omega)).trans w2, (h.cell (p := ⟨w1.heap.size, 1, none⟩) hVo).trans w3, (h.cell (p := ⟨wr.heap.size, 2, none⟩) hVl).trans w4, (h.cell (p := ⟨wr.heap.size, 1, none⟩) hVl).trans w5⟩
        have k3 : ∀ wx, Below V.heap.size V wx → (Below X.heap.size V (wx.setCell ⟨gg, o + i * 6 + 2, none⟩ (.int .i64 ((G : Int) + 1 - (la L i).rank))) ∧ (wx.setCell ⟨gg, o + i * 6 + 2, none⟩ (.int .i64 ((G : Int) + 1 - (la L i).rank))).cell? ⟨w.heap.size, 0, none⟩ = some (.int .i64 K) ∧ (wx.setCell ⟨gg, o + i * 6 + 2, none⟩ (.int .i64 ((G : Int) + 1 - (la L i).rank))).cell? ⟨w.heap.size, 1, none⟩ = some (.slice (some ⟨ga, oa, none⟩) n1 c) ∧ (wx.setCell ⟨gg, o + i * 6 + 2, none⟩ (.int .i64 ((G : Int) + 1 - (la L i).rank))).cell? ⟨w1.heap.size, 1, none⟩ = some (.slice (some ⟨gg, o, none⟩) n1 c1) ∧ (wx.setCell ⟨gg, o + i * 6 + 2, none⟩ (.int .i64 ((G : Int) + 1 - (la L i).rank))).cell? ⟨wr.heap.size, 2, none⟩ = some (.int .i64 (la L i).rank) ∧ (wx.setCell ⟨gg, o + i * 6 + 2, none⟩ (.int .i64 ((G : Int) + 1 - (la L i).rank))).cell? ⟨wr.heap.size, 1, none⟩ = some (.int .i64 (la L i).gate)) := fun wx h => by
          obtain ⟨u0, u1, u2, u3, u4, u5⟩ := k2 wx h
          refine ⟨u0.setCell (p := ⟨gg, o + i * 6 + 2, none⟩) hgX _, ?_, ?_, ?_, ?_, ?_⟩
          · rw [World.cell?_setCell_other _ _ _ _ (by intro e; injection e with e; omega)]; exact u1
          · rw [World.cell?_setCell_other _ _ _ _ (by intro e; injection e with e; omega)]; exact u2
          · rw [World.cell?_setCell_other _ _ _ _ (by intro e; injection e with e; omega)]; exact u3
          · rw [World.cell?_setCell_other _ _ _ _ (by intro e; injection e with e; omega)]; exact u4
          · rw [World.cell?_setCell_other _ _ _ _ (by intro e; injection e with e; omega)]; exact u5
        have K1 := Lib.hid k1
        have KP := Lib.hid k2
        have KS := Lib.hid k3
        clear k1 k2 k3 hx5 s0 s1 s2 s3 s4 s6 t1 t4 f1 f4 hwW hCW hBl hVe
        first
          | go_region_held3 (fun wx => Below X.heap.size V wx ∧ wx.cell? ⟨w.heap.size, 0, none⟩ = some (.int .i64 K) ∧ wx.cell? ⟨w.heap.size, 1, none⟩ = some (.slice (some ⟨ga, oa, none⟩) n1 c) ∧ wx.cell? ⟨w1.heap.size, 1, none⟩ = some (.slice (some ⟨gg, o, none⟩) n1 c1) ∧ wx.cell? ⟨wr.heap.size, 2, none⟩ = some (.int .i64 (la L i).rank) ∧ wx.cell? ⟨wr.heap.size, 1, none⟩ = some (.int .i64 (la L i).gate)) (first | assumption | exact KP.out _ (Below.refl _ _).drew | exact KP.out _ (by assumption) | exact KS.out _ (by assumption))
              ((go_at_call 89; refine (K1.out _ (Below.refl _ _).drew).mono ?_; rintro e wy ⟨rfl, hby⟩; have hbz : Below V.heap.size V wy := below_chain (Below.refl V.heap.size V).drew hby (Nat.le_refl _); have u1 : wy.cell? ⟨gg, o + i * 6 + 2, none⟩ = some (.int .i64 (la L i).rank) := (hbz.cell (p := ⟨gg, o + i * 6 + 2, none⟩) hgV).trans w6; have u2 : wy.frozen? ⟨gg, o + i * 6 + 2, none⟩ = false := (hbz.frozen (p := ⟨gg, o + i * 6 + 2, none⟩) hgV).trans w7))
          | fail
        all_goals
          have hC2 := (hC1.next (by assumption : Below V.heap.size V wy)).put (i := 2) (j := i) (x := { la L i with gate := K - (la L i).gate }) (u := .int .i64 ((G : Int) + 1 - (la L i).rank)) (x' := { la L i with gate := K - (la L i).gate, rank := (G : Int) + 1 - (la L i).rank }) (by rw [List.getElem?_set_self HLW1.out]) (by omega) rfl HK2.out rfl
          rw [List.set_set] at hC2
          clear w0 w2 w3 w4 w5 w6 w7 v1 v2
          go_wp2_with fail
          go_roundw
          case rel => exact ⟨i + 1, _, by omega, by go_num, hC2, HU1⟩
          case measure => simp [intOf]; omega
      · have q1 : ((la L i).kind == 1) = false := by simpa using hk1
        have hc2 : isC (la L i) = true := by
          rcases HS.out.kinds i (by rw [hLn.out]; exact hlt) with h | h
          · unfold isP at h; simp at h; exact absurd h hk1
          · exact h
        have hsg := HS.out.sign i (by rw [hLn.out]; exact hlt) hc2
        have b0 : -1 ≤ (la L i).sign := by omega
        have b1 : (la L i).sign ≤ 1 := by omega
        have v1 : IntKind.i64.wrap (-(la L i).sign) = -(la L i).sign := IntWalk.i64_in _ (by omega)
        have HU1 := Lib.hid (HU.out.set (by rw [hLn.out]; exact hlt) (mr_n (K := K) (L := L) (isP_f hk1)).symm)
        have hok1 : LtOk { la L i with sign := -(la L i).sign } := ⟨HOK.out.kind, HOK.out.gate, HOK.out.rank, HOK.out.id, ⟨by simp only []; omega, by simp only []; omega⟩⟩
        have hC1 := hCW.put (i := 4) (u := .int .i64 (-(la L i).sign)) (x' := { la L i with sign := -(la L i).sign }) HGI.out (by omega) rfl hok1 rfl
        clear hk1 HU hsg hc2 hok1
        go_wp2_with fail
        go_roundw
        case rel => exact ⟨i + 1, _, by omega, by go_num, hC1, HU1⟩
        case measure => simp [intOf]; omega
    · have hin : i = n1 := by omega
      have hU := HU.out
      rw [hin, ← hLn.out] at hU
      have hLf := hU.all
      have hown := hC.own
      rw [hLf] at hown
      have i1 : ¬ (i : Int) < (n1 : Int) := by omega
      have hR3 := hR0.below hC.old hX
      have o0 := hC.c0
      have r0 : wr.cell? ⟨w.heap.size + 1, 0, none⟩ = some (.int .i64 0) := (hR3.cell 0).trans rfl
      have r1 : wr.cell? ⟨w.heap.size + 1, 1, none⟩ = some (.slice none 0 0) := (hR3.cell 1).trans rfl
      have z0 := hR3.frozen 0
      have z1 := hR3.frozen 1
      have hG := copy_ends (w := w) (X := X) (K := K) hR3 hC.old hbx.below (by omega) hown
      clear hU hLf hin HU hR3 hown
      go_wp2_with fail
      (try simp only [Exit.inBlock, Exit.then])
      refine ret_cellB rfl rfl hG.1 Tryd.underlying24 rfl (by kernel_rfl) rfl ?_
      exact ⟨A1, n1, c1, rfl, hG.2.1, hG.2.2⟩
end Go.Proofs.YtkjcmppaapbabaaDoor
