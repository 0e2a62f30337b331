/-
  Contracts: the document's Mirror, the program's Mirror. Conditions: the letters read and are tame.
  Contract: the program's Mirror. Conditions: the letters read.
  Contract: the program's Turn. Conditions: the letters read.
-/
import Derived.Test.YtkjcmppaapbabaaDoorJK
import Derived.Deep.RegionHeld3
namespace Go.Proofs.YtkjcmppaapbabaaDoor
section
open Go.RowKit
set_option maxRecDepth 100000 in
set_option maxHeartbeats 6400000 in
theorem cref_Mirror (K : Int) (A : Option Addr) (n c : Nat) (L : List Lt) (w : World) (hA : Lets w A n L) (hs : Tame K L) :
    Calls Tryd.prog 47 #[.agg #[.int .i64 K, .slice A n c]] w (GivesC w K (mirrorL K L)) := by
  have hle := hA.le
  have hLn := Lib.hid hA.len
  have hK0 := hs.lo
  have hK4 := hs.hi
  have HS := Lib.hid hs
  have hn4 : n ≤ 400 := by have := hs.len; have := hA.len; omega
  have hbx : Boxed w ((w.alloc (.cells #[.int .i64 K, .slice A n c] 24)).alloc (.cells #[.int .i64 0, .slice none 0 0] 24)) K A n c := (Boxed.refl w K A n c).alloc _
  have hR0 : Blk ((w.alloc (.cells #[.int .i64 K, .slice A n c] 24)).alloc (.cells #[.int .i64 0, .slice none 0 0] 24)) (w.heap.size + 1) 24 #[.int .i64 0, .slice none 0 0] := heap_alloc2_new w _ _
  clear hs
  go_enter Tryd.func47, Tryd.ntmps47
  go_wp2_with fail
  generalize (w.alloc (.cells #[.int .i64 K, .slice A n c] 24)).alloc (.cells #[.int .i64 0, .slice none 0 0] 24) = X at hbx hR0 ⊢
  refine (cref_Copy K A n c L _ (hA.below hbx.below)).mono ?_
  rintro e w1 ⟨A1, n1, c1, rfl, hown, hb1⟩
  obtain rfl : n1 = n := by rw [← hown.len, hLn.out]
  have hX := hR0.lt
  have hsz1 := hb1.size
  have hC0 : Cpy X (w1.alloc (.cells #[.int .i64 K, .slice A1 n1 c1] 24)) w1.heap.size K A1 n1 c1 L :=
    ⟨hown.alloc _, Blk.new _ _ _, fun q hq => Nat.ne_of_lt (hown.row.lt q hq).2, hb1.alloc hsz1 _⟩
  have hst : Hid (Upto (mrLt K L) L L 0) := Lib.hid (Upto.zero _ _)
  clear hb1 hown
  go_wp2_with fail
  go_loopw [4] (fun v4 wr => ∃ (i : Nat) (Lw : List Lt), i ≤ n1 ∧ v4 = .int .i64 i ∧ Cpy X wr w1.heap.size K A1 n1 c1 Lw ∧ Hid (Upto (mrLt K L) L Lw i)) (fun v4 _ => n1 - (intOf v4).toNat)
  case atStart => exact ⟨0, L, Nat.zero_le _, rfl, hC0, hst⟩
  case round =>
    obtain ⟨i, Lw, hi, rfl, hC, HU⟩ := hrel
    clear hC0 hst
    have hbw := below_chain hbx.below hC.old (by omega)
    have o1 := hC.c1
    have e0 := (hbx.more hC.old).c0
    have e1 := (hbx.more hC.old).c1
    have hszr := hC.old.size
    have hblt := hC.bk.lt
    by_cases hlt : i < n1
    · obtain ⟨ga, oa, rfl, hga, hxa, hok⟩ := (hA.below hbw).at_ hlt
      obtain ⟨gg, o, rfl, hgg, hx, _⟩ := hC.own.lets.at_ hlt
      have hlw : la Lw i = la L i := by rw [HU.out.2 i (by rw [hLn.out]; exact hlt), if_neg (by omega)]
      have hgi : Lw[i]? = some (la L i) := by rw [la_get (by rw [hC.own.len]; exact hlt), hlw]
      rw [hlw] at hx
      obtain ⟨y0, y1, y2, y3, y4, y5⟩ := hx
      obtain ⟨z0, z1, z2, z3, z4, z5⟩ := hxa
      have i0 : (0 : Int) ≤ (i : Int) := by omega
      have i1 : (i : Int) < (n1 : Int) := by omega
      have m1 : gg ≠ w1.heap.size := hC.far gg rfl
      have hgX : X.heap.size ≤ gg := (hC.own.row.at_ _ rfl).2.1
      have m3 : gg ≠ wr.heap.size := by omega
      have HOK := Lib.hid hok
      have HGI := Lib.hid hgi
      clear hok hgi hlw
      have hCW := hC.alloc (.cells #[.int .i64 (la L i).kind, .int .i64 (la L i).gate, .int .i64 (la L i).rank, .int .i64 (la L i).id, .int .i64 (la L i).sign, .bool (la L i).over] 46)
      have hBl := Blk.new wr 46 #[.int .i64 (la L i).kind, .int .i64 (la L i).gate, .int .i64 (la L i).rank, .int .i64 (la L i).id, .int .i64 (la L i).sign, .bool (la L i).over]
      have hWr : Below wr.heap.size wr (wr.alloc (.cells #[.int .i64 (la L i).kind, .int .i64 (la L i).gate, .int .i64 (la L i).rank, .int .i64 (la L i).id, .int .i64 (la L i).sign, .bool (la L i).over] 46)) := (Below.refl _ _).alloc (Nat.le_refl _) _
      go_upto_region 6 with fail
      generalize wr.alloc (.cells #[.int .i64 (la L i).kind, .int .i64 (la L i).gate, .int .i64 (la L i).rank, .int .i64 (la L i).id, .int .i64 (la L i).sign, .bool (la L i).over] 46) = W at hCW hBl hWr ⊢
      have s0 : W.cell? ⟨w.heap.size, 0, none⟩ = some (.int .i64 K) := (hWr.cell (p := ⟨w.heap.size, 0, none⟩) (by simp; omega)).trans e0
      have s1 : W.cell? ⟨w.heap.size, 1, none⟩ = some (.slice (some ⟨ga, oa, none⟩) n1 c) := (hWr.cell (p := ⟨w.heap.size, 1, none⟩) (by simp; omega)).trans e1
      have s2 := hCW.c1
      have s3 : W.cell? ⟨wr.heap.size, 0, none⟩ = some (.int .i64 (la L i).kind) := (hBl.cell 0).trans rfl
      have s4 : W.cell? ⟨wr.heap.size, 1, none⟩ = some (.int .i64 (la L i).gate) := (hBl.cell 1).trans rfl
      have s6 : W.cell? ⟨wr.heap.size, 4, none⟩ = some (.int .i64 (la L i).sign) := (hBl.cell 4).trans rfl
      have t1 : W.cell? ⟨gg, o + i * 6 + 1, none⟩ = some (.int .i64 (la L i).gate) := (hWr.cell (p := ⟨gg, o + i * 6 + 1, none⟩) hgg).trans y1
      have t4 : W.cell? ⟨gg, o + i * 6 + 4, none⟩ = some (.int .i64 (la L i).sign) := (hWr.cell (p := ⟨gg, o + i * 6 + 4, none⟩) hgg).trans y4
      have f1 := hCW.free hlt (i := 1) (by omega)
      have f4 := hCW.free hlt (i := 4) (by omega)
      have hwW : Below w.heap.size w W := below_chain hbw hWr (by have := hbx.below.size; omega)
      have hWs : wr.heap.size < W.heap.size := hBl.lt
      have hgW : gg < W.heap.size := by omega
      clear o1 e0 e1 y0 y1 y2 y3 y4 y5 z0 z1 z2 z3 z4 z5 hC hWr
      by_cases hk1 : (la L i).kind = 1
      · have q1 : ((la L i).kind == 1) = true := by simpa using hk1
        have hp := isP_t hk1
        obtain ⟨b1, b2, b3, b4⟩ := HS.out.pass i (by rw [hLn.out]; exact hlt) hp
        obtain ⟨g, hg⟩ : ∃ g : Nat, (la L i).gate = (g : Int) := ⟨(la L i).gate.toNat, by omega⟩
        obtain ⟨G, hG⟩ : ∃ G : Nat, gN L (la L i).gate n1 = G := ⟨_, rfl⟩
        have hgn : G ≤ n1 := by rw [← hG]; exact gN_lt L _ n1
        have HU1 := Lib.hid (HU.out.set (by rw [hLn.out]; exact hlt) (x := { la L i with gate := K - (la L i).gate, rank := (G : Int) + 1 - (la L i).rank }) (by rw [mr_p hp, hLn.out, hG]))
        have hok1 : LtOk { la L i with gate := K - (la L i).gate } := ⟨HOK.out.kind, ⟨by simp only []; omega, by simp only []; omega⟩, HOK.out.rank, HOK.out.id, HOK.out.sign⟩
        have hok2 : LtOk { la L i with gate := K - (la L i).gate, rank := (G : Int) + 1 - (la L i).rank } := ⟨HOK.out.kind, hok1.gate, ⟨by simp only []; omega, by simp only []; omega⟩, HOK.out.id, HOK.out.sign⟩
        have hC1 : Cpy X (W.setCell ⟨gg, o + i * 6 + 1, none⟩ (.int .i64 (K - (la L i).gate))) w1.heap.size K (some ⟨gg, o, none⟩) n1 c1 (Lw.set i { la L i with gate := K - (la L i).gate }) := hCW.put (i := 1) (u := .int .i64 (K - (la L i).gate)) (x' := { la L i with gate := K - (la L i).gate }) HGI.out (by omega) rfl hok1 rfl
        have hBV : Blk (W.setCell ⟨gg, o + i * 6 + 1, none⟩ (.int .i64 (K - (la L i).gate))) wr.heap.size 46 #[.int .i64 (la L i).kind, .int .i64 (la L i).gate, .int .i64 (la L i).rank, .int .i64 (la L i).id, .int .i64 (la L i).sign, .bool (la L i).over] := hBl.far (fun e => m3 e.symm) _
        have hwV : Below X.heap.size W (W.setCell ⟨gg, o + i * 6 + 1, none⟩ (.int .i64 (K - (la L i).gate))) := (Below.refl _ _).setCell (p := ⟨gg, o + i * 6 + 1, none⟩) hgX _
        have hVs : (W.setCell ⟨gg, o + i * 6 + 1, none⟩ (.int .i64 (K - (la L i).gate))).heap.size = W.heap.size := by simp [World.setCell]
        have HVS := Lib.hid hVs
        have HK2 := Lib.hid hok2
        have HG := Lib.hid hG
        have HP := Lib.hid hp
        have hlw1 : i < Lw.length := by rw [hCW.own.len]; exact hlt
        have HLW1 := Lib.hid hlw1
        clear HU hk1 hok1 hok2 hVs hlw1 hp hg hG
        go_upto_region 8 with fail
        generalize W.setCell ⟨gg, o + i * 6 + 1, none⟩ (.int .i64 (K - (la L i).gate)) = V at hC1 hBV hwV HVS ⊢
        have hVe := HVS.out
        have hww : w.heap.size + 1 < X.heap.size := hX
        have w0 : V.cell? ⟨w.heap.size, 0, none⟩ = some (.int .i64 K) := (hwV.cell (p := ⟨w.heap.size, 0, none⟩) (by simp; omega)).trans s0
        have w2 : V.cell? ⟨w.heap.size, 1, none⟩ = some (.slice (some ⟨ga, oa, none⟩) n1 c) := (hwV.cell (p := ⟨w.heap.size, 1, none⟩) (by simp; omega)).trans s1
        have w3 := hC1.c1
        have w4 : V.cell? ⟨wr.heap.size, 2, none⟩ = some (.int .i64 (la L i).rank) := (hBV.cell 2).trans rfl
        have w5 : V.cell? ⟨wr.heap.size, 1, none⟩ = some (.int .i64 (la L i).gate) := (hBV.cell 1).trans rfl
        have hx5 := (hC1.own.lets.also hlt).1
        rw [la_set HLW1.out, if_pos rfl] at hx5
        have w6 : V.cell? ⟨gg, o + i * 6 + 2, none⟩ = some (.int .i64 (la L i).rank) := hx5.rank
        have w7 := hC1.free hlt (i := 2) (by omega)
        have hwV2 : Below w.heap.size w V := hwW.trans (hwV.mono (by omega))
        have k1 : ∀ wx, Below V.heap.size V wx → Calls Tryd.prog 89 #[.agg #[.int .i64 K, .slice (some ⟨ga, oa, none⟩) n1 c], .int .i64 (la L i).gate] wx fun e w' => e = .returned (.int .i64 (G : Int)) ∧ Below wx.heap.size wx w' := fun wx h => by
          rw [← HG.out]
          exact ref_In K _ _ n1 c L wx (hA.below (below_chain hwV2 h (by omega)))
        have v1 : IntKind.i64.wrap ((G : Int) + 1) = (G : Int) + 1 := IntWalk.i64_in _ (by omega)
        have v2 : IntKind.i64.wrap ((G : Int) + 1 - (la L i).rank) = (G : Int) + 1 - (la L i).rank := IntWalk.i64_in _ (by omega)
        have hgV : gg < V.heap.size := by omega
        have hVl : wr.heap.size < V.heap.size := by omega
        have hVo : w1.heap.size < V.heap.size := by omega
        have k2 : ∀ wx, Below V.heap.size V wx → (Below X.heap.size V wx ∧ wx.cell? ⟨w.heap.size, 0, none⟩ = some (.int .i64 K) ∧ wx.cell? ⟨w.heap.size, 1, none⟩ = some (.slice (some ⟨ga, oa, none⟩) n1 c) ∧ wx.cell? ⟨w1.heap.size, 1, none⟩ = some (.slice (some ⟨gg, o, none⟩) n1 c1) ∧ wx.cell? ⟨wr.heap.size, 2, none⟩ = some (.int .i64 (la L i).rank) ∧ wx.cell? ⟨wr.heap.size, 1, none⟩ = some (.int .i64 (la L i).gate)) := fun wx h =>
          ⟨h.mono (by omega), (h.cell (p := ⟨w.heap.size, 0, none⟩) (by simp; omega)).trans w0, (h.cell (p := ⟨w.heap.size, 1, none⟩) (by simp; omega)).trans w2, (h.cell (p := ⟨w1.heap.size, 1, none⟩) hVo).trans w3, (h.cell (p := ⟨wr.heap.size, 2, none⟩) hVl).trans w4, (h.cell (p := ⟨wr.heap.size, 1, none⟩) hVl).trans w5⟩
        have k3 : ∀ wx, Below V.heap.size V wx → (Below X.heap.size V (wx.setCell ⟨gg, o + i * 6 + 2, none⟩ (.int .i64 ((G : Int) + 1 - (la L i).rank))) ∧ (wx.setCell ⟨gg, o + i * 6 + 2, none⟩ (.int .i64 ((G : Int) + 1 - (la L i).rank))).cell? ⟨w.heap.size, 0, none⟩ = some (.int .i64 K) ∧ (wx.setCell ⟨gg, o + i * 6 + 2, none⟩ (.int .i64 ((G : Int) + 1 - (la L i).rank))).cell? ⟨w.heap.size, 1, none⟩ = some (.slice (some ⟨ga, oa, none⟩) n1 c) ∧ (wx.setCell ⟨gg, o + i * 6 + 2, none⟩ (.int .i64 ((G : Int) + 1 - (la L i).rank))).cell? ⟨w1.heap.size, 1, none⟩ = some (.slice (some ⟨gg, o, none⟩) n1 c1) ∧ (wx.setCell ⟨gg, o + i * 6 + 2, none⟩ (.int .i64 ((G : Int) + 1 - (la L i).rank))).cell? ⟨wr.heap.size, 2, none⟩ = some (.int .i64 (la L i).rank) ∧ (wx.setCell ⟨gg, o + i * 6 + 2, none⟩ (.int .i64 ((G : Int) + 1 - (la L i).rank))).cell? ⟨wr.heap.size, 1, none⟩ = some (.int .i64 (la L i).gate)) := fun wx h => by
          obtain ⟨u0, u1, u2, u3, u4, u5⟩ := k2 wx h
          refine ⟨u0.setCell (p := ⟨gg, o + i * 6 + 2, none⟩) hgX _, ?_, ?_, ?_, ?_, ?_⟩
          · rw [World.cell?_setCell_other _ _ _ _ (by intro e; injection e with e; omega)]; exact u1
          · rw [World.cell?_setCell_other _ _ _ _ (by intro e; injection e with e; omega)]; exact u2
          · rw [World.cell?_setCell_other _ _ _ _ (by intro e; injection e with e; omega)]; exact u3
          · rw [World.cell?_setCell_other _ _ _ _ (by intro e; injection e with e; omega)]; exact u4
          · rw [World.cell?_setCell_other _ _ _ _ (by intro e; injection e with e; omega)]; exact u5
        have K1 := Lib.hid k1
        have KP := Lib.hid k2
        have KS := Lib.hid k3
        clear k1 k2 k3 hx5 s0 s1 s2 s3 s4 s6 t1 t4 f1 f4 hwW hCW hBl hVe
        first
          | go_region_held3 (fun wx => Below X.heap.size V wx ∧ wx.cell? ⟨w.heap.size, 0, none⟩ = some (.int .i64 K) ∧ wx.cell? ⟨w.heap.size, 1, none⟩ = some (.slice (some ⟨ga, oa, none⟩) n1 c) ∧ wx.cell? ⟨w1.heap.size, 1, none⟩ = some (.slice (some ⟨gg, o, none⟩) n1 c1) ∧ wx.cell? ⟨wr.heap.size, 2, none⟩ = some (.int .i64 (la L i).rank) ∧ wx.cell? ⟨wr.heap.size, 1, none⟩ = some (.int .i64 (la L i).gate)) (first | assumption | exact KP.out _ (Below.refl _ _).drew | exact KP.out _ (by assumption) | exact KS.out _ (by assumption))
              ((go_at_call 89; refine (K1.out _ (Below.refl _ _).drew).mono ?_; rintro e wy ⟨rfl, hby⟩; have hbz : Below V.heap.size V wy := below_chain (Below.refl V.heap.size V).drew hby (Nat.le_refl _); have u1 : wy.cell? ⟨gg, o + i * 6 + 2, none⟩ = some (.int .i64 (la L i).rank) := (hbz.cell (p := ⟨gg, o + i * 6 + 2, none⟩) hgV).trans w6; have u2 : wy.frozen? ⟨gg, o + i * 6 + 2, none⟩ = false := (hbz.frozen (p := ⟨gg, o + i * 6 + 2, none⟩) hgV).trans w7))
          | fail
        all_goals
          have hC2 := (hC1.next (by assumption : Below V.heap.size V wy)).put (i := 2) (j := i) (x := { la L i with gate := K - (la L i).gate }) (u := .int .i64 ((G : Int) + 1 - (la L i).rank)) (x' := { la L i with gate := K - (la L i).gate, rank := (G : Int) + 1 - (la L i).rank }) (by rw [List.getElem?_set_self HLW1.out]) (by omega) rfl HK2.out rfl
          rw [List.set_set] at hC2
          clear w0 w2 w3 w4 w5 w6 w7 v1 v2
          go_wp2_with fail
          go_roundw
          case rel => exact ⟨i + 1, _, by omega, by go_num, hC2, HU1⟩
          case measure => simp [intOf]; omega
      · have q1 : ((la L i).kind == 1) = false := by simpa using hk1
        have hc2 : isC (la L i) = true := by
          rcases HS.out.kinds i (by rw [hLn.out]; exact hlt) with h | h
          · unfold isP at h; simp at h; exact absurd h hk1
          · exact h
        have hsg := HS.out.sign i (by rw [hLn.out]; exact hlt) hc2
        have b0 : -1 ≤ (la L i).sign := by omega
        have b1 : (la L i).sign ≤ 1 := by omega
        have v1 : IntKind.i64.wrap (-(la L i).sign) = -(la L i).sign := IntWalk.i64_in _ (by omega)
        have HU1 := Lib.hid (HU.out.set (by rw [hLn.out]; exact hlt) (mr_n (K := K) (L := L) (isP_f hk1)).symm)
        have hok1 : LtOk { la L i with sign := -(la L i).sign } := ⟨HOK.out.kind, HOK.out.gate, HOK.out.rank, HOK.out.id, ⟨by simp only []; omega, by simp only []; omega⟩⟩
        have hC1 := hCW.put (i := 4) (u := .int .i64 (-(la L i).sign)) (x' := { la L i with sign := -(la L i).sign }) HGI.out (by omega) rfl hok1 rfl
        clear hk1 HU hsg hc2 hok1
        go_wp2_with fail
        go_roundw
        case rel => exact ⟨i + 1, _, by omega, by go_num, hC1, HU1⟩
        case measure => simp [intOf]; omega
    · have hin : i = n1 := by omega
      have hU := HU.out
      rw [hin, ← hLn.out] at hU
      have hLf := hU.all
      have hown := hC.own
      rw [hLf] at hown
      have i1 : ¬ (i : Int) < (n1 : Int) := by omega
      have hR3 := hR0.below hC.old hX
      have o0 := hC.c0
      have r0 : wr.cell? ⟨w.heap.size + 1, 0, none⟩ = some (.int .i64 0) := (hR3.cell 0).trans rfl
      have r1 : wr.cell? ⟨w.heap.size + 1, 1, none⟩ = some (.slice none 0 0) := (hR3.cell 1).trans rfl
      have z0 := hR3.frozen 0
      have z1 := hR3.frozen 1
      have hG := copy_ends (w := w) (X := X) (K := K) hR3 hC.old hbx.below (by omega) hown
      clear hU hLf hin HU hR3 hown
      go_wp2_with fail
      (try simp only [Exit.inBlock, Exit.then])
      refine ret_cellB rfl rfl hG.1 Tryd.underlying24 rfl (by kernel_rfl) rfl ?_
      exact ⟨A1, n1, c1, rfl, hG.2.1, hG.2.2⟩
end

section
open Go.RowKit
set_option maxRecDepth 100000 in
set_option maxHeartbeats 6400000 in
theorem mirror_1 (p k : Nat) (A : Option Addr) (n c : Nat) (L : List Lt) (w : World) (hd : DiaN w p k A n c L) (hA : Lets w A n L) (hs : Tame (k : Int) L) :
    Calls Tryd.prog 93 #[.pointer (some ⟨p, 0, none⟩)] w (GivesL w (mirrorL (k : Int) L)) := by
  have hle := hA.le
  have hLn := Lib.hid hA.len
  have hn4 : n ≤ 400 := by have := hs.len; have := hA.len; omega
  have hk4 := hs.hi
  have HS := Lib.hid hs
  obtain ⟨d1, d2, d3, d4⟩ := hd
  have HD4 := Lib.hid d4
  clear d4 hs
  go_enter Tryd.func93, Tryd.ntmps93
  go_wp2_with fail
  refine (clone_letters A n c L _ hA).mono ?_
  rintro e w1 ⟨A1, c1, rfl, hown, hb1⟩
  have hst : Hid (Upto (mrLt (k : Int) L) L L 0) := Lib.hid (Upto.zero _ _)
  clear d1
  go_wp2_with fail
  go_loopw [4, 5, 14] (fun _ _ v14 wr => ∃ (i : Nat) (Lw : List Lt), i ≤ n ∧ v14 = .int .i64 i ∧ OwnL wr w.heap.size A1 n c1 Lw ∧ Below w.heap.size w wr ∧ Hid (Upto (mrLt (k : Int) L) L Lw i)) (fun _ _ v14 _ => n - (intOf v14).toNat)
  case atStart => exact ⟨0, L, Nat.zero_le _, rfl, hown, hb1, hst⟩
  case round =>
    obtain ⟨i, Lw, hi, rfl, hLw, hbr, HU⟩ := hrel
    clear hown hb1 hst
    by_cases hlt : i < n
    · obtain ⟨gg, o, rfl, hgg, hx, hok⟩ := hLw.lets.at_ hlt
      have hlw : la Lw i = la L i := by rw [HU.out.2 i (by rw [hLn.out]; exact hlt), if_neg (by omega)]
      have hgi : Lw[i]? = some (la L i) := by rw [la_get (by rw [hLw.len]; exact hlt), hlw]
      rw [hlw] at hx hok
      obtain ⟨y0, y1, y2, y3, y4, y5⟩ := hx
      have i0 : (0 : Int) ≤ (i : Int) := by omega
      have i1 : (i : Int) < (n : Int) := by omega
      have hcap := hLw.row.cap
      have hgb := (hLw.row.at_ _ rfl).2.1
      simp only [] at hgb
      have hszr := hbr.size
      have HOK := Lib.hid hok
      have HGI := Lib.hid hgi
      have m3 : gg ≠ wr.heap.size := by omega
      obtain ⟨base, b, g2, g3, g4, g6, s, P, C, ids, hF⟩ := HD4.out (by omega)
      have hFr := hF.next hbr
      have hLW := hLw.alloc (.cells #[.int .i64 (la L i).kind, .int .i64 (la L i).gate, .int .i64 (la L i).rank, .int .i64 (la L i).id, .int .i64 (la L i).sign, .bool (la L i).over] 46)
      have hBl := Blk.new wr 46 #[.int .i64 (la L i).kind, .int .i64 (la L i).gate, .int .i64 (la L i).rank, .int .i64 (la L i).id, .int .i64 (la L i).sign, .bool (la L i).over]
      have hWr : Below wr.heap.size wr (wr.alloc (.cells #[.int .i64 (la L i).kind, .int .i64 (la L i).gate, .int .i64 (la L i).rank, .int .i64 (la L i).id, .int .i64 (la L i).sign, .bool (la L i).over] 46)) := (Below.refl _ _).alloc (Nat.le_refl _) _
      have hgd : gg ≠ p ∧ gg ≠ g6 := by
        have m1 := hF.ranks.dia.lt
        have m2 := hF.ranks.count.lt
        omega
      obtain ⟨m4, m5⟩ := hgd
      clear hok hgi hlw
      go_upto_region 5 with fail
      generalize wr.alloc (.cells #[.int .i64 (la L i).kind, .int .i64 (la L i).gate, .int .i64 (la L i).rank, .int .i64 (la L i).id, .int .i64 (la L i).sign, .bool (la L i).over] 46) = W at hLW hBl hWr ⊢
      have hbW := below_chain hbr hWr hbr.size
      have hFW := hFr.next hWr
      have s0 : W.cell? ⟨wr.heap.size, 0, none⟩ = some (.int .i64 (la L i).kind) := (hBl.cell 0).trans rfl
      have s3 : W.cell? ⟨wr.heap.size, 1, none⟩ = some (.int .i64 (la L i).gate) := (hBl.cell 1).trans rfl
      have s4 : W.cell? ⟨wr.heap.size, 2, none⟩ = some (.int .i64 (la L i).rank) := (hBl.cell 2).trans rfl
      have s5 : W.cell? ⟨wr.heap.size, 4, none⟩ = some (.int .i64 (la L i).sign) := (hBl.cell 4).trans rfl
      have t1 : W.cell? ⟨gg, o + i * 6 + 1, none⟩ = some (.int .i64 (la L i).gate) := (hWr.cell (p := ⟨gg, o + i * 6 + 1, none⟩) hgg).trans y1
      have t2 : W.cell? ⟨gg, o + i * 6 + 2, none⟩ = some (.int .i64 (la L i).rank) := (hWr.cell (p := ⟨gg, o + i * 6 + 2, none⟩) hgg).trans y2
      have t4 : W.cell? ⟨gg, o + i * 6 + 4, none⟩ = some (.int .i64 (la L i).sign) := (hWr.cell (p := ⟨gg, o + i * 6 + 4, none⟩) hgg).trans y4
      have f1 : W.frozen? ⟨gg, o + i * 6 + 1, none⟩ = false := hLW.row.free (j := i * 6 + 1) (by omega)
      have f2 : W.frozen? ⟨gg, o + i * 6 + 2, none⟩ = false := hLW.row.free (j := i * 6 + 2) (by omega)
      have f4 : W.frozen? ⟨gg, o + i * 6 + 4, none⟩ = false := hLW.row.free (j := i * 6 + 4) (by omega)
      clear y0 y1 y2 y3 y4 y5 hLw hbr hWr hBl hFr hF
      by_cases hk1 : (la L i).kind = 1
      · have q1 : ((la L i).kind == 1) = true := by simpa using hk1
        have hp := isP_t hk1
        obtain ⟨b1, b2, b3, b4⟩ := HS.out.pass i (by rw [hLn.out]; exact hlt) hp
        obtain ⟨g, hg⟩ : ∃ g : Nat, (la L i).gate = (g : Int) := ⟨(la L i).gate.toNat, by omega⟩
        obtain ⟨G, hG⟩ : ∃ G : Nat, gN L (g : Int) n = G := ⟨_, rfl⟩
        have hgn : G ≤ n := by rw [← hG]; exact gN_lt L _ n
        have hHU := HU.out.set (by rw [hLn.out]; exact hlt) (x := { la L i with gate := (k : Int) - (g : Int), rank := (G : Int) + 1 - (la L i).rank }) (by rw [mr_p hp, hLn.out, hg, hG])
        have hok1 : LtOk { la L i with gate := (k : Int) - (g : Int) } := ⟨HOK.out.kind, ⟨by simp only []; omega, by simp only []; omega⟩, HOK.out.rank, HOK.out.id, HOK.out.sign⟩
        have hok2 : LtOk { la L i with gate := (k : Int) - (g : Int), rank := (G : Int) + 1 - (la L i).rank } := ⟨HOK.out.kind, hok1.gate, ⟨by simp only []; omega, by simp only []; omega⟩, HOK.out.id, HOK.out.sign⟩
        have hL1 := hLW.put (i := 1) (u := .int .i64 ((k : Int) - (g : Int))) (x' := { la L i with gate := (k : Int) - (g : Int) }) HGI.out (by omega) rfl hok1 rfl
        have hL2 := hL1.put (i := 2) (j := i) (x := { la L i with gate := (k : Int) - (g : Int) }) (u := .int .i64 ((G : Int) + 1 - (la L i).rank)) (x' := { la L i with gate := (k : Int) - (g : Int), rank := (G : Int) + 1 - (la L i).rank }) (by rw [List.getElem?_set_self (by rw [hLW.len]; exact hlt)]) (by omega) rfl hok2 rfl
        rw [List.set_set] at hL2
        have hb5 := (hbW.setCell (p := ⟨gg, o + (i * 6 + 1), none⟩) hgb (.int .i64 ((k : Int) - (g : Int)))).setCell (p := ⟨gg, o + (i * 6 + 2), none⟩) hgb (.int .i64 ((G : Int) + 1 - (la L i).rank))
        have hcc := hFW.ranks.count.cell (hFW.ranks.counts g (by omega))
        rw [hG] at hcc
        have c0 := hFW.ranks.dia.c0
        have c6 := hFW.ranks.dia.c6
        have m6 : (0 : Int) ≤ (g : Int) := by omega
        have m7 : (g : Int) < (k : Int) + 1 := by omega
        have HU1 := Lib.hid hHU
        rw [hg] at s3 t1
        have HG := Lib.hid hG
        have HGG := Lib.hid hg
        clear HU hHU hk1 hp hok1 hok2 hL1 hLW hbW hFW hg hG
        go_wp2_with fail
        go_region
        go_wp2_with fail
        go_roundw
        case rel => exact ⟨i + 1, _, by omega, by go_num, by first | exact hL2 | exact hL2.next (Below.refl _ _).drew, by first | exact hb5 | exact hb5.drew, HU1⟩
        case measure => simp [intOf]; omega
      · have q1 : ((la L i).kind == 1) = false := by simpa using hk1
        have hc2 : isC (la L i) = true := by
          rcases HS.out.kinds i (by rw [hLn.out]; exact hlt) with h | h
          · unfold isP at h; simp at h; exact absurd h hk1
          · exact h
        have hsg := HS.out.sign i (by rw [hLn.out]; exact hlt) hc2
        have b0 : -1 ≤ (la L i).sign := by omega
        have b1 : (la L i).sign ≤ 1 := by omega
        have v1 : IntKind.i64.wrap (-(la L i).sign) = -(la L i).sign := IntWalk.i64_in _ (by omega)
        have HU1 := Lib.hid (HU.out.set (by rw [hLn.out]; exact hlt) (mr_n (K := (k : Int)) (L := L) (isP_f hk1)).symm)
        have hok1 : LtOk { la L i with sign := -(la L i).sign } := ⟨HOK.out.kind, HOK.out.gate, HOK.out.rank, HOK.out.id, ⟨by simp only []; omega, by simp only []; omega⟩⟩
        have hL1 := hLW.put (i := 4) (u := .int .i64 (-(la L i).sign)) (x' := { la L i with sign := -(la L i).sign }) HGI.out (by omega) rfl hok1 rfl
        have hb5 := hbW.setCell (p := ⟨gg, o + (i * 6 + 4), none⟩) hgb (.int .i64 (-(la L i).sign))
        clear hk1 HU hsg hc2 hok1 hLW hbW hFW
        go_wp2_with fail
        go_roundw
        case rel => exact ⟨i + 1, _, by omega, by go_num, hL1, hb5, HU1⟩
        case measure => simp [intOf]; omega
    · have hin : i = n := by omega
      have hU := HU.out
      rw [hin, ← hLn.out] at hU
      have hLf := hU.all
      rw [hLf] at hLw
      have i1 : ¬ (i : Int) < (n : Int) := by omega
      clear hU hLf hin HU
      go_wp2_with fail
      go_ret
      exact ⟨A1, n, c1, rfl, hLw, hbr⟩
set_option maxRecDepth 100000 in
set_option maxHeartbeats 6400000 in
theorem changed_mirror (K : Int) (A : Option Addr) (n c : Nat) (L : List Lt) (w : World) (hA : Lets w A n L) (hc : n ≤ c) :
    Calls Tryd.prog 90 #[.agg #[.int .i64 K, .slice A n c], .func (.func 93) #[] #[]] w (GivesCE w (keepK K L) (keepL K L (mirrorL K L)) (checkE K L)) := by
  have hbc0 := build_code0
  have hbc2 := build_code2
  have hbx : Boxed w ((w.alloc (.cells #[.int .i64 K, .slice A n c] 24)).alloc (.cells #[.int .i64 0, .slice none 0 0] 24)) K A n c := (Boxed.refl w K A n c).alloc _
  have hR0 : Blk ((w.alloc (.cells #[.int .i64 K, .slice A n c] 24)).alloc (.cells #[.int .i64 0, .slice none 0 0] 24)) (w.heap.size + 1) 24 #[.int .i64 0, .slice none 0 0] := heap_alloc2_new w _ _
  obtain ⟨E, hE⟩ : ∃ E, checkE K L = E := ⟨_, rfl⟩
  have HE := Lib.hid hE
  clear hE
  go_enter Tryd.func90, Tryd.ntmps90
  go_wp2_with fail
  generalize (w.alloc (.cells #[.int .i64 K, .slice A n c] 24)).alloc (.cells #[.int .i64 0, .slice none 0 0] 24) = X at hbx hR0 ⊢
  refine (code_read K A n c L _ (hA.below hbx.below)).mono ?_
  rintro e w1 ⟨v, rfl, hb1, hok⟩
  have hX := hR0.lt
  have hsX := hb1.size
  have hR1 := hR0.below hb1 hX
  have hb2 := hbx.more hb1
  have x0 := hb2.c0
  have r0 : w1.cell? ⟨w.heap.size + 1, 0, none⟩ = some (.int .i64 0) := (hR1.cell 0).trans rfl
  have r1 : w1.cell? ⟨w.heap.size + 1, 1, none⟩ = some (.slice none 0 0) := (hR1.cell 1).trans rfl
  have z0 := hR1.frozen 0
  have z1 := hR1.frozen 1
  rw [HE.out]
  by_cases hz : E = 0
  · subst hz
    obtain ⟨p, rfl, k, rfl, hk40, hn400, hp, hcase⟩ := hok HE.out
    have HSM := Lib.hid (tame_of_check HE.out)
    have hdn : DiaN w1 p k A n c L := by
      rcases hcase with ⟨h0, hd⟩ | ⟨_, base, b, g2, g3, g4, g6, s, P, C, ids, _, hF⟩
      · exact ⟨hd.c1, hd.lt, hc, fun h => by omega⟩
      · exact ⟨hF.ranks.dia.c1, hF.ranks.dia.lt, hc, fun _ => ⟨base, b, g2, g3, g4, g6, s, P, C, ids, hF⟩⟩
    have hcl : ∀ wx, Below w1.heap.size w1 wx → Calls Tryd.prog 93 #[.pointer (some ⟨p, 0, none⟩)] wx (GivesL wx (mirrorL (k : Int) L)) := fun wx h => mirror_1 p k A n c L wx (hdn.next h) (hA.below (hb2.more h).below) HSM.out
    have k0 : ∀ wx, Below w1.heap.size w1 wx → wx.cell? ⟨w.heap.size, 0, none⟩ = some (.int .i64 (k : Int)) := fun wx h => (hb2.more h).c0
    have k1 : ∀ wx a1 a2, Below w1.heap.size w1 wx → ((wx.setCell ⟨w.heap.size + 1, 0, none⟩ a1).setCell ⟨w.heap.size + 1, 1, none⟩ a2).cell? ⟨w.heap.size, 0, none⟩ = some (.int .i64 (k : Int)) := fun wx a1 a2 h => by
      rw [World.cell?_setCell_other _ _ _ _ (by intro e; injection e with e; omega), World.cell?_setCell_other _ _ _ _ (by intro e; injection e with e; omega)]
      exact (hb2.more h).c0
    have HCL := Lib.hid hcl
    have KP := Lib.hid k0
    have KS := Lib.hid k1
    have HW := hb2.below
    have hlw : w.heap.size + 1 < w1.heap.size := hR1.lt
    clear hcl k0 k1 hok hcase hdn hb2 hbx hR0 hb1 r0 r1 z0 z1
    go_wp2_with fail
    first
      | go_region_held3 (fun wx => wx.cell? ⟨w.heap.size, 0, none⟩ = some (.int .i64 (k : Int))) (first | assumption | exact KP.out _ (Below.refl _ _).drew | exact KP.out _ (by assumption) | exact KS.out _ _ _ (by assumption))
          ((go_at_call 93; refine (HCL.out _ (Below.refl _ _).drew).mono ?_; rintro e wy ⟨A2, n2, c2, rfl, hL2, hb3⟩; have hbz : Below w1.heap.size w1 wy := below_chain (Below.refl w1.heap.size w1).drew hb3 (Nat.le_refl _); have u0 : wy.cell? ⟨w.heap.size + 1, 0, none⟩ = some (.int .i64 0) := ((hR1.below hbz hlw).cell 0).trans rfl; have u1 : wy.cell? ⟨w.heap.size + 1, 1, none⟩ = some (.slice none 0 0) := ((hR1.below hbz hlw).cell 1).trans rfl; have u2 := (hR1.below hbz hlw).frozen 0; have u3 := (hR1.below hbz hlw).frozen 1))
      | fail
    all_goals
      have hRy := hR1.below (by assumption : Below w1.heap.size w1 wy) hlw
      have hG := copy_ends (w := w) (X := w1) (K := (k : Int)) hRy (by assumption : Below w1.heap.size w1 wy) HW hlw hL2
      clear x0 u0 u1 u2 u3 hRy
      go_wp2_with fail
      (try simp only [Exit.inBlock, Exit.then])
      refine ret_cellT rfl rfl rfl hG.1 Tryd.underlying24 rfl (by kernel_rfl) rfl ?_
      exact ⟨A2, n2, c2, by rw [keepK_ok HE.out, HE.out]; rfl, by rw [keepL_ok HE.out]; exact hG.2.1, hG.2.2⟩
  · have q : (E != 0) = true := by simpa using hz
    have hS : Blk ((w1.setCell ⟨w.heap.size + 1, 0, none⟩ (.int .i64 0)).setCell ⟨w.heap.size + 1, 1, none⟩ (.slice none 0 0)) (w.heap.size + 1) 24 #[.int .i64 0, .slice none 0 0] := (hR1.set_ 0 _).set_ 1 _
    have hbS := (hb2.below.setCell (p := ⟨w.heap.size + 1, 0, none⟩) (by simp) (.int .i64 0)).setCell (p := ⟨w.heap.size + 1, 1, none⟩) (by simp) (.slice none 0 0)
    have HZ := Lib.hid hz
    clear hz hok hR0 hR1 hb1 hbx
    go_wp2_with fail
    (try simp only [Exit.inBlock, Exit.then])
    refine ret_cellT rfl rfl rfl hS Tryd.underlying24 rfl (by kernel_rfl) rfl ?_
    exact ⟨none, 0, 0, by rw [keepK_no (by rw [HE.out]; exact HZ.out), HE.out]; rfl, by rw [keepL_no (by rw [HE.out]; exact HZ.out)]; exact OwnL.nil _ _, hbS⟩
set_option maxRecDepth 100000 in
set_option maxHeartbeats 3200000 in
theorem code_mirror (K : Int) (A : Option Addr) (n c : Nat) (L : List Lt) (w : World) (hA : Lets w A n L) (hc : n ≤ c) :
    Calls Tryd.prog 43 #[.agg #[.int .i64 K, .slice A n c]] w (GivesCE w (keepK K L) (keepL K L (mirrorL K L)) (checkE K L)) := by
  have hbx : Boxed w ((w.alloc (.cells #[.int .i64 K, .slice A n c] 24)).alloc (.cells #[.int .i64 0, .slice none 0 0] 24)) K A n c := (Boxed.refl w K A n c).alloc _
  have hR0 : Blk ((w.alloc (.cells #[.int .i64 K, .slice A n c] 24)).alloc (.cells #[.int .i64 0, .slice none 0 0] 24)) (w.heap.size + 1) 24 #[.int .i64 0, .slice none 0 0] := heap_alloc2_new w _ _
  obtain ⟨E, hE⟩ : ∃ E, checkE K L = E := ⟨_, rfl⟩
  obtain ⟨K2, hK2⟩ : ∃ K2 : Int, keepK K L = K2 := ⟨_, rfl⟩
  obtain ⟨M, hM⟩ : ∃ M : List Lt, keepL K L (mirrorL K L) = M := ⟨_, rfl⟩
  have hch := fun wx (h : Lets wx A n L) => changed_mirror K A n c L wx h hc
  rw [hE, hK2, hM] at hch ⊢
  have HCH := Lib.hid hch
  clear hch hE hK2 hM
  go_enter Tryd.func43, Tryd.ntmps43
  go_wp2_with fail
  generalize (w.alloc (.cells #[.int .i64 K, .slice A n c] 24)).alloc (.cells #[.int .i64 0, .slice none 0 0] 24) = X at hbx hR0 ⊢
  refine (HCH.out _ (hA.below hbx.below)).mono ?_
  rintro e w1 ⟨A1, n1, c1, rfl, hL1, hb1⟩
  have hX := hR0.lt
  have hR1 := hR0.below hb1 hX
  have r0 : w1.cell? ⟨w.heap.size + 1, 0, none⟩ = some (.int .i64 0) := (hR1.cell 0).trans rfl
  have r1 : w1.cell? ⟨w.heap.size + 1, 1, none⟩ = some (.slice none 0 0) := (hR1.cell 1).trans rfl
  have z0 := hR1.frozen 0
  have z1 := hR1.frozen 1
  have hG := copy_ends (w := w) (X := X) (K := K2) hR1 hb1 hbx.below hX hL1
  clear hR0 hR1 hbx hb1
  go_wp2_with fail
  (try simp only [Exit.inBlock, Exit.then])
  refine ret_cellT rfl rfl rfl hG.1 Tryd.underlying24 rfl (by kernel_rfl) rfl ?_
  exact ⟨A1, n1, c1, rfl, hG.2.1, hG.2.2⟩
end

section
open Go.RowKit
/-- From j on the letters are mapped. -/
def Downto (g : Lt → Lt) (L M : List Lt) (j : Nat) : Prop := M.length = L.length ∧ ∀ i, i < L.length → la M i = if j ≤ i then g (la L i) else la L i
theorem Downto.zero (g : Lt → Lt) (L : List Lt) {n : Nat} (h : L.length = n) : Downto g L L n := ⟨rfl, fun i hi => by rw [if_neg (by omega)]⟩
theorem Downto.set {g : Lt → Lt} {L M : List Lt} {i : Nat} (h : Downto g L M (i + 1)) (hi : i < L.length) {x : Lt} (hx : x = g (la L i)) : Downto g L (M.set i x) i := by
  refine ⟨by simp [h.1], fun j hj => ?_⟩
  rw [la_set (by rw [h.1]; exact hi)]
  by_cases e : i = j
  · subst e; rw [if_pos rfl, if_pos (Nat.le_refl _), hx]
  · rw [if_neg e, h.2 j hj]
    by_cases e2 : i + 1 ≤ j
    · rw [if_pos e2, if_pos (by omega)]
    · rw [if_neg e2, if_neg (by omega)]
theorem Downto.skip {g : Lt → Lt} {L M : List Lt} {i : Nat} (h : Downto g L M (i + 1)) (hx : g (la L i) = la L i) : Downto g L M i := by
  refine ⟨h.1, fun j hj => ?_⟩
  rw [h.2 j hj]
  by_cases e2 : i + 1 ≤ j
  · rw [if_pos e2, if_pos (by omega)]
  · rw [if_neg e2]
    by_cases e : j = i
    · subst e; rw [if_pos (Nat.le_refl _), hx]
    · rw [if_neg (by omega)]
theorem Downto.all {g : Lt → Lt} {L M : List Lt} (h : Downto g L M 0) : M = L.map g := by
  apply List.ext_getElem?
  intro j
  by_cases hj : j < L.length
  · rw [la_get (by rw [h.1]; exact hj), h.2 j hj, if_pos (Nat.zero_le _), List.getElem?_map, la_get hj]; rfl
  · rw [List.getElem?_eq_none (by rw [h.1]; omega), List.getElem?_eq_none (by simp; omega)]
/-- The first pass from j on that meets d, or 0. -/
def FromJ (L : List Lt) (d : Nat → Bool) (j F : Nat) : Prop :=
  (F = 0 ∧ ∀ i, j ≤ i → i < L.length → (isP (la L i) && d i) = false) ∨ (j ≤ F ∧ F < L.length ∧ (isP (la L F) && d F) = true ∧ ∀ i, j ≤ i → i < F → (isP (la L i) && d i) = false)
theorem FromJ.lt {L : List Lt} {d : Nat → Bool} {j F : Nat} (h : FromJ L d j F) : F ≤ L.length := by
  rcases h with ⟨h, _⟩ | ⟨_, h, _⟩ <;> omega
theorem FromJ.stay {L : List Lt} {d : Nat → Bool} {i F : Nat} (h : FromJ L d (i + 1) F) (hi : (isP (la L i) && d i) = false) : FromJ L d i F := by
  rcases h with ⟨h1, h2⟩ | ⟨h1, h2, h3, h4⟩
  · refine .inl ⟨h1, fun k hk hk2 => ?_⟩
    rcases Nat.decEq k i with e | e
    · exact h2 k (by omega) hk2
    · subst e; exact hi
  · refine .inr ⟨by omega, h2, h3, fun k hk hk2 => ?_⟩
    rcases Nat.decEq k i with e | e
    · exact h4 k (by omega) hk2
    · subst e; exact hi
theorem FromJ.new {L : List Lt} {d : Nat → Bool} {i : Nat} (hl : i < L.length) (hi : (isP (la L i) && d i) = true) : FromJ L d i i := .inr ⟨Nat.le_refl _, hl, hi, fun k hk hk2 => by omega⟩
theorem FromJ.settle {L M : List Lt} {d : Nat → Bool} {F : Nat} (h : FromJ L d 0 F) (hlen : M.length = L.length) (hp : ∀ i, i < L.length → isP (la M i) = isP (la L i)) : rotT M F = settleL M d := by
  rcases h with ⟨rfl, h2⟩ | ⟨_, h2, h3, h4⟩
  · rw [settle_none (fun i hi => by rw [hp i (by omega)]; exact h2 i (Nat.zero_le _) (by omega))]
    simp [rotT]
  · rw [settle_at (k := F) (fun i hi => by rw [hp i (by omega)]; exact h4 i (Nat.zero_le _) hi) (by rw [hp F h2]; exact h3) (by omega)]
theorem to_isP (x : Lt) : isP (toLt x) = isP x := by unfold toLt; split <;> rfl
set_option maxRecDepth 100000 in
set_option maxHeartbeats 6400000 in
theorem turn_1 (p k : Nat) (A : Option Addr) (n c : Nat) (L : List Lt) (w : World) (hd : DiaN w p k A n c L) (hA : Lets w A n L) (hs : Tame (k : Int) L) :
    Calls Tryd.prog 94 #[.pointer (some ⟨p, 0, none⟩)] w (GivesL w (turnL L)) := by
  have hle := hA.le
  have hLn := Lib.hid hA.len
  have HS := Lib.hid hs
  obtain ⟨d1, d2, d3, d4⟩ := hd
  have HD4 := Lib.hid d4
  have hn4 : n ≤ 400 := by have := hs.len; have := hA.len; omega
  clear d4 hs
  go_enter Tryd.func94, Tryd.ntmps94
  go_wp2_with fail
  refine (clone_letters A n c L _ hA).mono ?_
  rintro e w1 ⟨A1, c1, rfl, hown, hb1⟩
  have hst : Hid (Downto toLt L L n) := Lib.hid (Downto.zero _ _ hLn.out)
  have hf0 : Hid (FromJ L (fun i => !dwn L i) n 0) := Lib.hid (.inl ⟨rfl, fun i h1 h2 => by have := hLn.out; omega⟩)
  have hcap1 : n ≤ c1 := hown.row.cap
  clear d1
  go_wp2_with fail
  go_loopw [4, 5] (fun v4 v5 wr => ∃ (j F : Nat) (x : Int) (Lw : List Lt), j ≤ n ∧ v5 = .int .i64 x ∧ Hid (x = (j : Int) - 1) ∧ v4 = .int .i64 F ∧ OwnL wr w.heap.size A1 n c1 Lw ∧ Below w.heap.size w wr ∧ Hid (Downto toLt L Lw j) ∧ Hid (FromJ L (fun i => !dwn L i) j F)) (fun _ v5 _ => (intOf v5 + 1).toNat)
  case atStart => exact ⟨n, 0, (n : Int) - 1, L, Nat.le_refl _, by go_num, Lib.hid rfl, rfl, hown, hb1, hst, hf0⟩
  case round =>
    obtain ⟨j, F, x, Lw, hj, rfl, HX, rfl, hLw, hbr, HU, HF⟩ := hrel
    clear hown hb1 hst hf0
    rcases Nat.eq_zero_or_pos j with h0 | h0
    · have hx : x = -1 := by have := HX.out; omega
      subst h0
      subst hx
      have hLf := HU.out.all
      rw [hLf] at hLw
      have hFl : F ≤ n := by have := HF.out.lt; have := hLn.out; omega
      have hset := Lib.hid (HF.out.settle (M := L.map toLt) (by simp) (fun i hi => by rw [la_map hi, to_isP]))
      have hrot := code_rotated F A1 n c1 (L.map toLt) wr hLw.lets hFl hcap1
      have HROT := Lib.hid hrot
      have hszr := hbr.size
      clear hLf HU HF hrot HX
      go_wp2_with fail
      refine HROT.out.mono ?_
      rintro e w5 ⟨A5, c5, rfl, hL5, hb5⟩
      rw [hset.out] at hL5
      have hL6 := hL5.mono hszr
      have hb6 := below_chain hbr hb5 hszr
      go_wp2_with fail
      go_ret
      exact ⟨A5, n, c5, rfl, hL6, hb6⟩
    · obtain ⟨i, rfl⟩ : ∃ i, j = i + 1 := ⟨j - 1, by omega⟩
      have hx : x = (i : Int) := by have := HX.out; omega
      subst hx
      have hlt : i < n := by omega
      obtain ⟨gg, o, rfl, hgg, hx, hok⟩ := hLw.lets.at_ hlt
      have hlw : la Lw i = la L i := by rw [HU.out.2 i (by rw [hLn.out]; exact hlt), if_neg (by omega)]
      have hgi : Lw[i]? = some (la L i) := by rw [la_get (by rw [hLw.len]; exact hlt), hlw]
      rw [hlw] at hx hok
      obtain ⟨y0, y1, y2, y3, y4, y5⟩ := hx
      have i0 : (0 : Int) ≤ (i : Int) := by omega
      have i1 : (i : Int) < (n : Int) := by omega
      have hcap := hLw.row.cap
      have hgb := (hLw.row.at_ _ rfl).2.1
      simp only [] at hgb
      have hszr := hbr.size
      have f5 : wr.frozen? ⟨gg, o + i * 6 + 5, none⟩ = false := hLw.row.free (j := i * 6 + 5) (by omega)
      have HOK := Lib.hid hok
      have HGI := Lib.hid hgi
      clear hok hgi hlw HX
      by_cases hk1 : (la L i).kind = 2
      · have q1 : ((la L i).kind == 2) = true := by simpa using hk1
        have hc2 := isC_t hk1
        have HF1 := Lib.hid (HF.out.stay (by rw [isP_f (show ¬(la L i).kind = 1 by omega)]; rfl))
        have HU1 := Lib.hid (HU.out.set (by rw [hLn.out]; exact hlt) (to_c hc2).symm)
        have hok1 : LtOk { la L i with over := !(la L i).over } := ⟨HOK.out.kind, HOK.out.gate, HOK.out.rank, HOK.out.id, HOK.out.sign⟩
        have hL1 := hLw.put (i := 5) (u := .bool (!(la L i).over)) (x' := { la L i with over := !(la L i).over }) HGI.out (by omega) rfl hok1 rfl
        have hb5 := hbr.setCell (p := ⟨gg, o + (i * 6 + 5), none⟩) hgb (.bool (!(la L i).over))
        clear HU HF hk1 hc2 hok1 hLw hbr
        go_wp2_with fail
        go_roundw
        case rel => exact ⟨i, F, (i : Int) - 1, _, by omega, by go_num, Lib.hid rfl, rfl, hL1, hb5, HU1, HF1⟩
        case measure => simp [intOf]
      · have q1 : ((la L i).kind == 2) = false := by simpa using hk1
        have hp1 : isP (la L i) = true := by
          rcases HS.out.kinds i (by rw [hLn.out]; exact hlt) with h | h
          · exact h
          · unfold isC at h; simp at h; exact absurd h hk1
        have HU1 := Lib.hid (HU.out.skip (to_n (x := la L i) (isC_f hk1)))
        obtain ⟨base, b, g2, g3, g4, g6, s, P, C, ids, hF⟩ := HD4.out (by omega)
        have hFr := hF.next hbr
        have hcs := hFr.ranks.down.cell hlt
        rw [hFr.ranks.downs i hp1] at hcs
        have d2c := hFr.ranks.dia.c2
        cases hdi : dwn L i with
        | true =>
          rw [hdi] at hcs
          have HF1 := Lib.hid (HF.out.stay (by simp [hdi]))
          clear HU HF hk1 hdi hF hFr hp1
          go_wp2_with fail
          go_roundw
          case rel => exact ⟨i, F, (i : Int) - 1, Lw, by omega, by go_num, Lib.hid rfl, rfl, hLw, hbr, HU1, HF1⟩
          case measure => simp [intOf]
        | false =>
          rw [hdi] at hcs
          have HF1 := Lib.hid (FromJ.new (L := L) (d := fun i => !dwn L i) (i := i) (by rw [hLn.out]; exact hlt) (by simp [hdi, hp1]))
          clear HU HF hk1 hdi hF hFr hp1
          go_wp2_with fail
          go_roundw
          case rel => exact ⟨i, i, (i : Int) - 1, Lw, by omega, by go_num, Lib.hid rfl, rfl, hLw, hbr, HU1, HF1⟩
          case measure => simp [intOf]
set_option maxRecDepth 100000 in
set_option maxHeartbeats 6400000 in
theorem changed_turn (K : Int) (A : Option Addr) (n c : Nat) (L : List Lt) (w : World) (hA : Lets w A n L) (hc : n ≤ c) :
    Calls Tryd.prog 90 #[.agg #[.int .i64 K, .slice A n c], .func (.func 94) #[] #[]] w (GivesCE w (keepK K L) (keepL K L (turnL L)) (checkE K L)) := by
  have hbc0 := build_code0
  have hbc2 := build_code2
  have hbx : Boxed w ((w.alloc (.cells #[.int .i64 K, .slice A n c] 24)).alloc (.cells #[.int .i64 0, .slice none 0 0] 24)) K A n c := (Boxed.refl w K A n c).alloc _
  have hR0 : Blk ((w.alloc (.cells #[.int .i64 K, .slice A n c] 24)).alloc (.cells #[.int .i64 0, .slice none 0 0] 24)) (w.heap.size + 1) 24 #[.int .i64 0, .slice none 0 0] := heap_alloc2_new w _ _
  obtain ⟨E, hE⟩ : ∃ E, checkE K L = E := ⟨_, rfl⟩
  have HE := Lib.hid hE
  clear hE
  go_enter Tryd.func90, Tryd.ntmps90
  go_wp2_with fail
  generalize (w.alloc (.cells #[.int .i64 K, .slice A n c] 24)).alloc (.cells #[.int .i64 0, .slice none 0 0] 24) = X at hbx hR0 ⊢
  refine (code_read K A n c L _ (hA.below hbx.below)).mono ?_
  rintro e w1 ⟨v, rfl, hb1, hok⟩
  have hX := hR0.lt
  have hsX := hb1.size
  have hR1 := hR0.below hb1 hX
  have hb2 := hbx.more hb1
  have x0 := hb2.c0
  have r0 : w1.cell? ⟨w.heap.size + 1, 0, none⟩ = some (.int .i64 0) := (hR1.cell 0).trans rfl
  have r1 : w1.cell? ⟨w.heap.size + 1, 1, none⟩ = some (.slice none 0 0) := (hR1.cell 1).trans rfl
  have z0 := hR1.frozen 0
  have z1 := hR1.frozen 1
  rw [HE.out]
  by_cases hz : E = 0
  · subst hz
    obtain ⟨p, rfl, k, rfl, hk40, hn400, hp, hcase⟩ := hok HE.out
    have HSM := Lib.hid (tame_of_check HE.out)
    have hdn : DiaN w1 p k A n c L := by
      rcases hcase with ⟨h0, hd⟩ | ⟨_, base, b, g2, g3, g4, g6, s, P, C, ids, _, hF⟩
      · exact ⟨hd.c1, hd.lt, hc, fun h => by omega⟩
      · exact ⟨hF.ranks.dia.c1, hF.ranks.dia.lt, hc, fun _ => ⟨base, b, g2, g3, g4, g6, s, P, C, ids, hF⟩⟩
    have hcl : ∀ wx, Below w1.heap.size w1 wx → Calls Tryd.prog 94 #[.pointer (some ⟨p, 0, none⟩)] wx (GivesL wx (turnL L)) := fun wx h => turn_1 p k A n c L wx (hdn.next h) (hA.below (hb2.more h).below) HSM.out
    have k0 : ∀ wx, Below w1.heap.size w1 wx → wx.cell? ⟨w.heap.size, 0, none⟩ = some (.int .i64 (k : Int)) := fun wx h => (hb2.more h).c0
    have k1 : ∀ wx a1 a2, Below w1.heap.size w1 wx → ((wx.setCell ⟨w.heap.size + 1, 0, none⟩ a1).setCell ⟨w.heap.size + 1, 1, none⟩ a2).cell? ⟨w.heap.size, 0, none⟩ = some (.int .i64 (k : Int)) := fun wx a1 a2 h => by
      rw [World.cell?_setCell_other _ _ _ _ (by intro e; injection e with e; omega), World.cell?_setCell_other _ _ _ _ (by intro e; injection e with e; omega)]
      exact (hb2.more h).c0
    have HCL := Lib.hid hcl
    have KP := Lib.hid k0
    have KS := Lib.hid k1
    have HW := hb2.below
    have hlw : w.heap.size + 1 < w1.heap.size := hR1.lt
    clear hcl k0 k1 hok hcase hdn hb2 hbx hR0 hb1 r0 r1 z0 z1
    go_wp2_with fail
    first
      | go_region_held3 (fun wx => wx.cell? ⟨w.heap.size, 0, none⟩ = some (.int .i64 (k : Int))) (first | assumption | exact KP.out _ (Below.refl _ _).drew | exact KP.out _ (by assumption) | exact KS.out _ _ _ (by assumption))
          ((go_at_call 94; refine (HCL.out _ (Below.refl _ _).drew).mono ?_; rintro e wy ⟨A2, n2, c2, rfl, hL2, hb3⟩; have hbz : Below w1.heap.size w1 wy := below_chain (Below.refl w1.heap.size w1).drew hb3 (Nat.le_refl _); have u0 : wy.cell? ⟨w.heap.size + 1, 0, none⟩ = some (.int .i64 0) := ((hR1.below hbz hlw).cell 0).trans rfl; have u1 : wy.cell? ⟨w.heap.size + 1, 1, none⟩ = some (.slice none 0 0) := ((hR1.below hbz hlw).cell 1).trans rfl; have u2 := (hR1.below hbz hlw).frozen 0; have u3 := (hR1.below hbz hlw).frozen 1))
      | fail
    all_goals
      have hRy := hR1.below (by assumption : Below w1.heap.size w1 wy) hlw
      have hG := copy_ends (w := w) (X := w1) (K := (k : Int)) hRy (by assumption : Below w1.heap.size w1 wy) HW hlw hL2
      clear x0 u0 u1 u2 u3 hRy
      go_wp2_with fail
      (try simp only [Exit.inBlock, Exit.then])
      refine ret_cellT rfl rfl rfl hG.1 Tryd.underlying24 rfl (by kernel_rfl) rfl ?_
      exact ⟨A2, n2, c2, by rw [keepK_ok HE.out, HE.out]; rfl, by rw [keepL_ok HE.out]; exact hG.2.1, hG.2.2⟩
  · have q : (E != 0) = true := by simpa using hz
    have hS : Blk ((w1.setCell ⟨w.heap.size + 1, 0, none⟩ (.int .i64 0)).setCell ⟨w.heap.size + 1, 1, none⟩ (.slice none 0 0)) (w.heap.size + 1) 24 #[.int .i64 0, .slice none 0 0] := (hR1.set_ 0 _).set_ 1 _
    have hbS := (hb2.below.setCell (p := ⟨w.heap.size + 1, 0, none⟩) (by simp) (.int .i64 0)).setCell (p := ⟨w.heap.size + 1, 1, none⟩) (by simp) (.slice none 0 0)
    have HZ := Lib.hid hz
    clear hz hok hR0 hR1 hb1 hbx
    go_wp2_with fail
    (try simp only [Exit.inBlock, Exit.then])
    refine ret_cellT rfl rfl rfl hS Tryd.underlying24 rfl (by kernel_rfl) rfl ?_
    exact ⟨none, 0, 0, by rw [keepK_no (by rw [HE.out]; exact HZ.out), HE.out]; rfl, by rw [keepL_no (by rw [HE.out]; exact HZ.out)]; exact OwnL.nil _ _, hbS⟩
set_option maxRecDepth 100000 in
set_option maxHeartbeats 3200000 in
theorem code_turn (K : Int) (A : Option Addr) (n c : Nat) (L : List Lt) (w : World) (hA : Lets w A n L) (hc : n ≤ c) :
    Calls Tryd.prog 44 #[.agg #[.int .i64 K, .slice A n c]] w (GivesCE w (keepK K L) (keepL K L (turnL L)) (checkE K L)) := by
  have hbx : Boxed w ((w.alloc (.cells #[.int .i64 K, .slice A n c] 24)).alloc (.cells #[.int .i64 0, .slice none 0 0] 24)) K A n c := (Boxed.refl w K A n c).alloc _
  have hR0 : Blk ((w.alloc (.cells #[.int .i64 K, .slice A n c] 24)).alloc (.cells #[.int .i64 0, .slice none 0 0] 24)) (w.heap.size + 1) 24 #[.int .i64 0, .slice none 0 0] := heap_alloc2_new w _ _
  obtain ⟨E, hE⟩ : ∃ E, checkE K L = E := ⟨_, rfl⟩
  obtain ⟨K2, hK2⟩ : ∃ K2 : Int, keepK K L = K2 := ⟨_, rfl⟩
  obtain ⟨M, hM⟩ : ∃ M : List Lt, keepL K L (turnL L) = M := ⟨_, rfl⟩
  have hch := fun wx (h : Lets wx A n L) => changed_turn K A n c L wx h hc
  rw [hE, hK2, hM] at hch ⊢
  have HCH := Lib.hid hch
  clear hch hE hK2 hM
  go_enter Tryd.func44, Tryd.ntmps44
  go_wp2_with fail
  generalize (w.alloc (.cells #[.int .i64 K, .slice A n c] 24)).alloc (.cells #[.int .i64 0, .slice none 0 0] 24) = X at hbx hR0 ⊢
  refine (HCH.out _ (hA.below hbx.below)).mono ?_
  rintro e w1 ⟨A1, n1, c1, rfl, hL1, hb1⟩
  have hX := hR0.lt
  have hR1 := hR0.below hb1 hX
  have r0 : w1.cell? ⟨w.heap.size + 1, 0, none⟩ = some (.int .i64 0) := (hR1.cell 0).trans rfl
  have r1 : w1.cell? ⟨w.heap.size + 1, 1, none⟩ = some (.slice none 0 0) := (hR1.cell 1).trans rfl
  have z0 := hR1.frozen 0
  have z1 := hR1.frozen 1
  have hG := copy_ends (w := w) (X := X) (K := K2) hR1 hb1 hbx.below hX hL1
  clear hR0 hR1 hbx hb1
  go_wp2_with fail
  (try simp only [Exit.inBlock, Exit.then])
  refine ret_cellT rfl rfl rfl hG.1 Tryd.underlying24 rfl (by kernel_rfl) rfl ?_
  exact ⟨A1, n1, c1, rfl, hG.2.1, hG.2.2⟩
end
end Go.Proofs.YtkjcmppaapbabaaDoor
