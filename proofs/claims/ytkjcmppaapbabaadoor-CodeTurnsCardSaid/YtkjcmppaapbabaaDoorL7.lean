/-
  Contract of the document's test of letters. Conditions: the code's letters read; at most 1000 letters.
-/
import Derived.Test.YtkjcmppaapbabaaDoorL6
import Derived.Test.YtkjcmppaapbabaaDoorS1
import Derived.Deep.DeepCutAuto
namespace Go.Proofs.YtkjcmppaapbabaaDoor
open Go.RowKit

theorem unwanted_step {c : Bool} {X Y : Prop} (h : c = false) (hy : Y) : if c = true then X else Y := by rw [h]; simpa using hy
theorem sm_yes {L : List Lt} {l : Lt} {j : Nat} (h : smB l (la L j) = true) : smN L l (j + 1) = smN L l j + 1 := countTo_yes h
theorem sm_no {L : List Lt} {l : Lt} {j : Nat} (h : smB l (la L j) = false) : smN L l (j + 1) = smN L l j := countTo_no h
theorem pr_yes {L : List Lt} {l : Lt} {j : Nat} (h : prB l (la L j) = true) : prN L l (j + 1) = prN L l j + 1 := countTo_yes h
theorem pr_no {L : List Lt} {l : Lt} {j : Nat} (h : prB l (la L j) = false) : prN L l (j + 1) = prN L l j := countTo_no h
theorem lettersR_no {K : Int} {L : List Lt} {k n : Nat} (hL : L.length = n) (hk : k < n) (h : rlB K L (la L k) = false) : lettersR K L = false := by
  unfold lettersR
  rw [hL]
  exact allTo_no hk h
set_option maxRecDepth 100000 in
set_option maxHeartbeats 32000000 in
theorem ref_letters (K : Int) (A : Option Addr) (n c : Nat) (L : List Lt) (w : World) (hA : Lets w A n L) (hn400 : n ≤ 1000) :
    Calls Tryd.prog 77 #[.agg #[.int .i64 K, .slice A n c]] w fun e w' => e = .returned (.bool (lettersR K L)) ∧ Below w.heap.size w w' := by
  have hle := hA.le
  have HL := Lib.hid hA.len
  have hbx := Boxed.refl w K A n c
  go_enter Tryd.func77, Tryd.ntmps77
  go_wp2_with fail
  go_loopw [3] (fun v3 wr => ∃ k : Nat, k ≤ n ∧ v3 = .int .i64 k ∧ Boxed w wr K A n c ∧ Hid (allTo (fun i => rlB K L (la L i)) k = true)) (fun v3 _ => n - (intOf v3).toNat)
  case atStart => exact ⟨0, Nat.zero_le _, rfl, hbx, Lib.hid rfl⟩
  case round =>
    obtain ⟨k, hk, rfl, hb, HK⟩ := hrel
    clear hbx
    by_cases hlt : k < n
    · have hk0 := hb.c0
      have hk1 := hb.c1
      obtain ⟨g, o, rfl, hg, hx, hok⟩ := (hA.below hb.below).at_ hlt
      obtain ⟨h0, h1, h2, h3, h4, h5⟩ := hx
      go_wp2_with fail
      obtain ⟨wo, rfl⟩ : ∃ wo : World, wo = wr := ⟨_, rfl⟩
      have hwl := (Below.refl wo.heap.size wo).alloc (Nat.le_refl _) (.cells #[.int .i64 (la L k).kind, .int .i64 (la L k).gate, .int .i64 (la L k).rank, .int .i64 (la L k).id, .int .i64 (la L k).sign, .bool (la L k).over] 46)
      have hblk := Blk.new wo 46 #[.int .i64 (la L k).kind, .int .i64 (la L k).gate, .int .i64 (la L k).rank, .int .i64 (la L k).id, .int .i64 (la L k).sign, .bool (la L k).over]
      go_loopw [5, 6, 7] (fun v5 v6 v7 wi => ∃ j : Nat, j ≤ n ∧ v7 = .int .i64 j ∧ v5 = .int .i64 (smN L (la L k) j) ∧ v6 = .int .i64 (prN L (la L k) j) ∧ Below wo.heap.size wo wi ∧ Blk wi wo.heap.size 46 #[.int .i64 (la L k).kind, .int .i64 (la L k).gate, .int .i64 (la L k).rank, .int .i64 (la L k).id, .int .i64 (la L k).sign, .bool (la L k).over]) (fun _ _ v7 _ => n - (intOf v7).toNat)
      case atStart => exact ⟨0, Nat.zero_le _, rfl, rfl, rfl, hwl, hblk⟩
      case round =>
        obtain ⟨j, hj, rfl, rfl, rfl, hbi, hbk⟩ := hrel
        clear hwl hblk
        have z0 := hbk.cell 0
        have z1 := hbk.cell 1
        have z2 := hbk.cell 2
        have z3 := hbk.cell 3
        have z4 := hbk.cell 4
        have z5 := hbk.cell 5
        simp at z0 z1 z2 z3 z4 z5
        have hbb := hb.more hbi
        have c0 := hbb.c0
        have c1 := hbb.c1
        have hsm : smN L (la L k) j ≤ j := countTo_le _ _
        have hpr : prN L (la L k) j ≤ j := countTo_le _ _
        have hltw := hbk.lt
        by_cases hjn : j < n
        · obtain ⟨y0, y1, y2, y3, y4, y5⟩ := ((hA.below hbb.below).also hjn).1
          have e1 : smN L (la L k) (j + 1) = smN L (la L k) j + (if smB (la L k) (la L j) then 1 else 0) := rfl
          have e2 : prN L (la L k) (j + 1) = prN L (la L k) j + (if prB (la L k) (la L j) then 1 else 0) := rfl
          have E1 := Lib.hid e1
          have E2 := Lib.hid e2
          clear e1 e2 h0 h1 h2 h3 h4 h5 hk0 hk1
          obtain ⟨l, hl⟩ : ∃ l, l = la L k := ⟨_, rfl⟩
          obtain ⟨r, hr⟩ : ∃ r, r = la L j := ⟨_, rfl⟩
          rw [← hl] at E1 E2 hbk hsm hpr z0 z1 z2 z3 z4 z5 ⊢
          rw [← hr] at E1 E2 y0 y1 y2 y3 y4 y5
          have HLK := Lib.hid hl
          have HRJ := Lib.hid hr
          clear hl hr
          go_upto_region 10 with fail
          generalize hW : World.alloc wr _ = W
          have hB8 : Blk W wr.heap.size 46 #[.int .i64 r.kind, .int .i64 r.gate, .int .i64 r.rank, .int .i64 r.id, .int .i64 r.sign, .bool r.over] := by rw [← hW]; exact Blk.new wr _ _
          have hB4 : Blk W wo.heap.size 46 #[.int .i64 l.kind, .int .i64 l.gate, .int .i64 l.rank, .int .i64 l.id, .int .i64 l.sign, .bool l.over] := by rw [← hW]; exact hbk.alloc _
          have hbW : Below wo.heap.size wo W := by rw [← hW]; exact hbi.alloc hbi.size _
          clear hW z0 z1 z2 z3 z4 z5 y0 y1 y2 y3 y4 y5 c0 c1
          have a0 : W.cell? ⟨wo.heap.size, 0, none⟩ = some (.int .i64 l.kind) := (hB4.cell 0).trans rfl
          have a1 : W.cell? ⟨wo.heap.size, 1, none⟩ = some (.int .i64 l.gate) := (hB4.cell 1).trans rfl
          have a2 : W.cell? ⟨wo.heap.size, 2, none⟩ = some (.int .i64 l.rank) := (hB4.cell 2).trans rfl
          have a3 : W.cell? ⟨wo.heap.size, 3, none⟩ = some (.int .i64 l.id) := (hB4.cell 3).trans rfl
          have a4 : W.cell? ⟨wo.heap.size, 4, none⟩ = some (.int .i64 l.sign) := (hB4.cell 4).trans rfl
          have a5 : W.cell? ⟨wo.heap.size, 5, none⟩ = some (.bool l.over) := (hB4.cell 5).trans rfl
          have b0 : W.cell? ⟨wr.heap.size, 0, none⟩ = some (.int .i64 r.kind) := (hB8.cell 0).trans rfl
          have b1 : W.cell? ⟨wr.heap.size, 1, none⟩ = some (.int .i64 r.gate) := (hB8.cell 1).trans rfl
          have b2 : W.cell? ⟨wr.heap.size, 2, none⟩ = some (.int .i64 r.rank) := (hB8.cell 2).trans rfl
          have b3 : W.cell? ⟨wr.heap.size, 3, none⟩ = some (.int .i64 r.id) := (hB8.cell 3).trans rfl
          have b4 : W.cell? ⟨wr.heap.size, 4, none⟩ = some (.int .i64 r.sign) := (hB8.cell 4).trans rfl
          have b5 : W.cell? ⟨wr.heap.size, 5, none⟩ = some (.bool r.over) := (hB8.cell 5).trans rfl
          go_cut [51] (fun v51 wv => v51 = .bool (smB l r) ∧ wv = W)
          case first =>
            rename_i hJ1 hM1
            obtain ⟨e1, he1⟩ : ∃ b, (r.kind == l.kind) = b := ⟨_, rfl⟩
            obtain ⟨e2, he2⟩ : ∃ b, (r.gate == l.gate) = b := ⟨_, rfl⟩
            obtain ⟨e3, he3⟩ : ∃ b, (r.rank == l.rank) = b := ⟨_, rfl⟩
            refine wk_region0 (C := fun w' => w' = W) 172 [(8, .pointer (some ⟨wr.heap.size, 0, none⟩)), (4, .pointer (some ⟨wo.heap.size, 0, none⟩))] rfl (by kernel_rfl) (by intro q hq; simp at hq; rcases hq with rfl | rfl <;> simp) (frm_same (frm_same rfl (by simp) rfl) (by simp) rfl) rfl ?_
            intro r0 hrc hrf
            refine wk_one (v := .pointer (some ⟨wr.heap.size, 0, none⟩)) rfl (fun w' hC => q_fa (p := .pointer (some ⟨wr.heap.size, 0, none⟩)) rfl rfl (fa_lt _ 0 0 (by decide) _)) ?_
            refine wk_one (v := .int .i64 r.kind) rfl (fun w' hC => q_ld (p := .pointer (some ⟨wr.heap.size, 0, none⟩)) rfl rfl (ld_kind (by rw [hC]; exact b0))) ?_
            refine wk_one (v := .pointer (some ⟨wo.heap.size, 0, none⟩)) rfl (fun w' hC => q_fa (p := .pointer (some ⟨wo.heap.size, 0, none⟩)) rfl rfl (fa_lt _ 0 0 (by decide) _)) ?_
            refine wk_one (v := .int .i64 l.kind) rfl (fun w' hC => q_ld (p := .pointer (some ⟨wo.heap.size, 0, none⟩)) rfl rfl (ld_kind (by rw [hC]; exact a0))) ?_
            refine wk_one (v := .bool (e1)) rfl (fun w' hC => q_bin (X := .int .i64 r.kind) (Y := .int .i64 l.kind) rfl rfl rfl (bo_eqlK he1)) ?_
            refine wk_one (v := .bool (e1)) rfl (fun w' hC => q_move rfl rfl) ?_
            refine wk_grd (b := e1) (v := .pointer (some ⟨wr.heap.size, 1, none⟩)) (want_t rfl rfl rfl) (fun h w' hC => q_fa (p := .pointer (some ⟨wr.heap.size, 0, none⟩)) rfl rfl (fa_lt _ 0 1 (by decide) _)) ?_
            refine wk_grd (b := e1) (v := .int .i64 r.gate) (want_t rfl rfl rfl) (fun h w' hC => q_ld (p := .pointer (some ⟨wr.heap.size, 1, none⟩)) rfl (cnd h) (ld_int (by rw [hC]; exact b1))) ?_
            refine wk_grd (b := e1) (v := .pointer (some ⟨wo.heap.size, 1, none⟩)) (want_t rfl rfl rfl) (fun h w' hC => q_fa (p := .pointer (some ⟨wo.heap.size, 0, none⟩)) rfl rfl (fa_lt _ 0 1 (by decide) _)) ?_
            refine wk_grd (b := e1) (v := .int .i64 l.gate) (want_t rfl rfl rfl) (fun h w' hC => q_ld (p := .pointer (some ⟨wo.heap.size, 1, none⟩)) rfl (cnd h) (ld_int (by rw [hC]; exact a1))) ?_
            refine wk_grd (b := e1) (v := .bool (e2)) (want_t rfl rfl rfl) (fun h w' hC => q_bin (X := .int .i64 r.gate) (Y := .int .i64 l.gate) rfl (cnd h) (cnd h) (bo_eql he2)) ?_
            refine wk_one (v := .bool (e1 && e2)) rfl (fun w' hC => q_and rfl (fun _ => hrc _) rfl rfl) ?_
            refine wk_one (v := .bool (e1 && e2)) rfl (fun w' hC => q_move rfl rfl) ?_
            refine wk_grd (b := e1 && e2) (v := .pointer (some ⟨wr.heap.size, 2, none⟩)) (want_t rfl rfl rfl) (fun h w' hC => q_fa (p := .pointer (some ⟨wr.heap.size, 0, none⟩)) rfl rfl (fa_lt _ 0 2 (by decide) _)) ?_
            refine wk_grd (b := e1 && e2) (v := .int .i64 r.rank) (want_t rfl rfl rfl) (fun h w' hC => q_ld (p := .pointer (some ⟨wr.heap.size, 2, none⟩)) rfl (cnd h) (ld_int (by rw [hC]; exact b2))) ?_
            refine wk_grd (b := e1 && e2) (v := .pointer (some ⟨wo.heap.size, 2, none⟩)) (want_t rfl rfl rfl) (fun h w' hC => q_fa (p := .pointer (some ⟨wo.heap.size, 0, none⟩)) rfl rfl (fa_lt _ 0 2 (by decide) _)) ?_
            refine wk_grd (b := e1 && e2) (v := .int .i64 l.rank) (want_t rfl rfl rfl) (fun h w' hC => q_ld (p := .pointer (some ⟨wo.heap.size, 2, none⟩)) rfl (cnd h) (ld_int (by rw [hC]; exact a2))) ?_
            refine wk_grd (b := e1 && e2) (v := .bool (e3)) (want_t rfl rfl rfl) (fun h w' hC => q_bin (X := .int .i64 r.rank) (Y := .int .i64 l.rank) rfl (cnd h) (cnd h) (bo_eql he3)) ?_
            refine wk_one (v := .bool ((e1 && e2) && e3)) rfl (fun w' hC => q_and rfl (fun _ => hrc _) rfl rfl) ?_
            intro wx hwx
            have hf := Lib.hid (show ((e1 && e2) && e3) = smB l r by subst he1 he2 he3; rfl)
            clear hrc hrf r0
            rw [frm_upd]
            refine hM1 _ _ (Met.intro (hJ1 _ _ ?_))
            repeat apply Exists.intro
            refine ⟨?rel, rfl⟩
            case rel => exact ⟨congrArg Value.bool hf.out, hwx⟩
          case rest =>
            obtain ⟨rfl, hv⟩ := hcut
            obtain rfl := hv.symm
            cases hs : smB l r with
            | true =>
              rw [hs] at E1
              have HS := Lib.hid hs
              clear hs
              go_upto_region 12 with fail
              go_cut [79] (fun v79 wv => v79 = .bool (prB l r) ∧ wv = W)
              case first =>
                rename_i hJ1 hM1
                obtain ⟨e1, he1⟩ : ∃ b, (r.kind == l.kind) = b := ⟨_, rfl⟩
                obtain ⟨e2, he2⟩ : ∃ b, (r.id == l.id) = b := ⟨_, rfl⟩
                obtain ⟨e3, he3⟩ : ∃ b, (r.sign == l.sign) = b := ⟨_, rfl⟩
                obtain ⟨e4, he4⟩ : ∃ b, (r.over != l.over) = b := ⟨_, rfl⟩
                refine wk_region0 (C := fun w' => w' = W) 172 [(8, .pointer (some ⟨wr.heap.size, 0, none⟩)), (4, .pointer (some ⟨wo.heap.size, 0, none⟩))] rfl (by kernel_rfl) (by intro q hq; simp at hq; rcases hq with rfl | rfl <;> simp) (frm_same (frm_same rfl (by simp) rfl) (by simp) rfl) rfl ?_
                intro r0 hrc hrf
                refine wk_one (v := .pointer (some ⟨wr.heap.size, 0, none⟩)) rfl (fun w' hC => q_fa (p := .pointer (some ⟨wr.heap.size, 0, none⟩)) rfl rfl (fa_lt _ 0 0 (by decide) _)) ?_
                refine wk_one (v := .int .i64 r.kind) rfl (fun w' hC => q_ld (p := .pointer (some ⟨wr.heap.size, 0, none⟩)) rfl rfl (ld_kind (by rw [hC]; exact b0))) ?_
                refine wk_one (v := .pointer (some ⟨wo.heap.size, 0, none⟩)) rfl (fun w' hC => q_fa (p := .pointer (some ⟨wo.heap.size, 0, none⟩)) rfl rfl (fa_lt _ 0 0 (by decide) _)) ?_
                refine wk_one (v := .int .i64 l.kind) rfl (fun w' hC => q_ld (p := .pointer (some ⟨wo.heap.size, 0, none⟩)) rfl rfl (ld_kind (by rw [hC]; exact a0))) ?_
                refine wk_one (v := .bool (e1)) rfl (fun w' hC => q_bin (X := .int .i64 r.kind) (Y := .int .i64 l.kind) rfl rfl rfl (bo_eqlK he1)) ?_
                refine wk_one (v := .bool (e1)) rfl (fun w' hC => q_move rfl rfl) ?_
                refine wk_grd (b := e1) (v := .pointer (some ⟨wr.heap.size, 3, none⟩)) (want_t rfl rfl rfl) (fun h w' hC => q_fa (p := .pointer (some ⟨wr.heap.size, 0, none⟩)) rfl rfl (fa_lt _ 0 3 (by decide) _)) ?_
                refine wk_grd (b := e1) (v := .int .i64 r.id) (want_t rfl rfl rfl) (fun h w' hC => q_ld (p := .pointer (some ⟨wr.heap.size, 3, none⟩)) rfl (cnd h) (ld_int (by rw [hC]; exact b3))) ?_
                refine wk_grd (b := e1) (v := .pointer (some ⟨wo.heap.size, 3, none⟩)) (want_t rfl rfl rfl) (fun h w' hC => q_fa (p := .pointer (some ⟨wo.heap.size, 0, none⟩)) rfl rfl (fa_lt _ 0 3 (by decide) _)) ?_
                refine wk_grd (b := e1) (v := .int .i64 l.id) (want_t rfl rfl rfl) (fun h w' hC => q_ld (p := .pointer (some ⟨wo.heap.size, 3, none⟩)) rfl (cnd h) (ld_int (by rw [hC]; exact a3))) ?_
                refine wk_grd (b := e1) (v := .bool (e2)) (want_t rfl rfl rfl) (fun h w' hC => q_bin (X := .int .i64 r.id) (Y := .int .i64 l.id) rfl (cnd h) (cnd h) (bo_eql he2)) ?_
                refine wk_one (v := .bool (e1 && e2)) rfl (fun w' hC => q_and rfl (fun _ => hrc _) rfl rfl) ?_
                refine wk_one (v := .bool (e1 && e2)) rfl (fun w' hC => q_move rfl rfl) ?_
                refine wk_grd (b := e1 && e2) (v := .pointer (some ⟨wr.heap.size, 4, none⟩)) (want_t rfl rfl rfl) (fun h w' hC => q_fa (p := .pointer (some ⟨wr.heap.size, 0, none⟩)) rfl rfl (fa_lt _ 0 4 (by decide) _)) ?_
                refine wk_grd (b := e1 && e2) (v := .int .i64 r.sign) (want_t rfl rfl rfl) (fun h w' hC => q_ld (p := .pointer (some ⟨wr.heap.size, 4, none⟩)) rfl (cnd h) (ld_int (by rw [hC]; exact b4))) ?_
                refine wk_grd (b := e1 && e2) (v := .pointer (some ⟨wo.heap.size, 4, none⟩)) (want_t rfl rfl rfl) (fun h w' hC => q_fa (p := .pointer (some ⟨wo.heap.size, 0, none⟩)) rfl rfl (fa_lt _ 0 4 (by decide) _)) ?_
                refine wk_grd (b := e1 && e2) (v := .int .i64 l.sign) (want_t rfl rfl rfl) (fun h w' hC => q_ld (p := .pointer (some ⟨wo.heap.size, 4, none⟩)) rfl (cnd h) (ld_int (by rw [hC]; exact a4))) ?_
                refine wk_grd (b := e1 && e2) (v := .bool (e3)) (want_t rfl rfl rfl) (fun h w' hC => q_bin (X := .int .i64 r.sign) (Y := .int .i64 l.sign) rfl (cnd h) (cnd h) (bo_eql he3)) ?_
                refine wk_one (v := .bool ((e1 && e2) && e3)) rfl (fun w' hC => q_and rfl (fun _ => hrc _) rfl rfl) ?_
                refine wk_one (v := .bool ((e1 && e2) && e3)) rfl (fun w' hC => q_move rfl rfl) ?_
                refine wk_grd (b := (e1 && e2) && e3) (v := .pointer (some ⟨wr.heap.size, 5, none⟩)) (want_t rfl rfl rfl) (fun h w' hC => q_fa (p := .pointer (some ⟨wr.heap.size, 0, none⟩)) rfl rfl (fa_lt _ 0 5 (by decide) _)) ?_
                refine wk_grd (b := (e1 && e2) && e3) (v := .bool (r.over)) (want_t rfl rfl rfl) (fun h w' hC => q_ld (p := .pointer (some ⟨wr.heap.size, 5, none⟩)) rfl (cnd h) (ld_bool (by rw [hC]; exact b5))) ?_
                refine wk_grd (b := (e1 && e2) && e3) (v := .pointer (some ⟨wo.heap.size, 5, none⟩)) (want_t rfl rfl rfl) (fun h w' hC => q_fa (p := .pointer (some ⟨wo.heap.size, 0, none⟩)) rfl rfl (fa_lt _ 0 5 (by decide) _)) ?_
                refine wk_grd (b := (e1 && e2) && e3) (v := .bool (l.over)) (want_t rfl rfl rfl) (fun h w' hC => q_ld (p := .pointer (some ⟨wo.heap.size, 5, none⟩)) rfl (cnd h) (ld_bool (by rw [hC]; exact a5))) ?_
                refine wk_grd (b := (e1 && e2) && e3) (v := .bool (e4)) (want_t rfl rfl rfl) (fun h w' hC => q_bin (X := .bool (r.over)) (Y := .bool (l.over)) rfl (cnd h) (cnd h) (bo_neqB he4)) ?_
                refine wk_one (v := .bool (((e1 && e2) && e3) && e4)) rfl (fun w' hC => q_and rfl (fun _ => hrc _) rfl rfl) ?_
                intro wx hwx
                have hf := Lib.hid (show (((e1 && e2) && e3) && e4) = prB l r by subst he1 he2 he3 he4; rfl)
                clear hrc hrf r0
                rw [frm_upd]
                refine hM1 _ _ (Met.intro (hJ1 _ _ ?_))
                repeat apply Exists.intro
                refine ⟨?rel, rfl⟩
                case rel => exact ⟨congrArg Value.bool hf.out, hwx⟩
              case rest =>
                obtain ⟨rfl, hv⟩ := hcut
                obtain rfl := hv.symm
                cases hp : prB l r with
                | true =>
                  rw [hp] at E2
                  have HP := Lib.hid hp
                  clear hp
                  go_wp2_with fail
                  go_roundw
                  case rel => exact ⟨j + 1, by omega, by go_num, by rw [E1.out]; go_num, by rw [E2.out]; go_num, hbW, hB4⟩
                  case measure => simp [intOf]; omega
                | false =>
                  rw [hp] at E2
                  have HP := Lib.hid hp
                  clear hp
                  go_wp2_with fail
                  go_roundw
                  case rel => exact ⟨j + 1, by omega, by go_num, by rw [E1.out]; go_num, by rw [E2.out]; rfl, hbW, hB4⟩
                  case measure => simp [intOf]; omega
            | false =>
              rw [hs] at E1
              have HS := Lib.hid hs
              clear hs
              go_upto_region 12 with fail
              go_cut [79] (fun v79 wv => v79 = .bool (prB l r) ∧ wv = W)
              case first =>
                rename_i hJ1 hM1
                obtain ⟨e1, he1⟩ : ∃ b, (r.kind == l.kind) = b := ⟨_, rfl⟩
                obtain ⟨e2, he2⟩ : ∃ b, (r.id == l.id) = b := ⟨_, rfl⟩
                obtain ⟨e3, he3⟩ : ∃ b, (r.sign == l.sign) = b := ⟨_, rfl⟩
                obtain ⟨e4, he4⟩ : ∃ b, (r.over != l.over) = b := ⟨_, rfl⟩
                refine wk_region0 (C := fun w' => w' = W) 172 [(8, .pointer (some ⟨wr.heap.size, 0, none⟩)), (4, .pointer (some ⟨wo.heap.size, 0, none⟩))] rfl (by kernel_rfl) (by intro q hq; simp at hq; rcases hq with rfl | rfl <;> simp) (frm_same (frm_same rfl (by simp) rfl) (by simp) rfl) rfl ?_
                intro r0 hrc hrf
                refine wk_one (v := .pointer (some ⟨wr.heap.size, 0, none⟩)) rfl (fun w' hC => q_fa (p := .pointer (some ⟨wr.heap.size, 0, none⟩)) rfl rfl (fa_lt _ 0 0 (by decide) _)) ?_
                refine wk_one (v := .int .i64 r.kind) rfl (fun w' hC => q_ld (p := .pointer (some ⟨wr.heap.size, 0, none⟩)) rfl rfl (ld_kind (by rw [hC]; exact b0))) ?_
                refine wk_one (v := .pointer (some ⟨wo.heap.size, 0, none⟩)) rfl (fun w' hC => q_fa (p := .pointer (some ⟨wo.heap.size, 0, none⟩)) rfl rfl (fa_lt _ 0 0 (by decide) _)) ?_
                refine wk_one (v := .int .i64 l.kind) rfl (fun w' hC => q_ld (p := .pointer (some ⟨wo.heap.size, 0, none⟩)) rfl rfl (ld_kind (by rw [hC]; exact a0))) ?_
                refine wk_one (v := .bool (e1)) rfl (fun w' hC => q_bin (X := .int .i64 r.kind) (Y := .int .i64 l.kind) rfl rfl rfl (bo_eqlK he1)) ?_
                refine wk_one (v := .bool (e1)) rfl (fun w' hC => q_move rfl rfl) ?_
                refine wk_grd (b := e1) (v := .pointer (some ⟨wr.heap.size, 3, none⟩)) (want_t rfl rfl rfl) (fun h w' hC => q_fa (p := .pointer (some ⟨wr.heap.size, 0, none⟩)) rfl rfl (fa_lt _ 0 3 (by decide) _)) ?_
                refine wk_grd (b := e1) (v := .int .i64 r.id) (want_t rfl rfl rfl) (fun h w' hC => q_ld (p := .pointer (some ⟨wr.heap.size, 3, none⟩)) rfl (cnd h) (ld_int (by rw [hC]; exact b3))) ?_
                refine wk_grd (b := e1) (v := .pointer (some ⟨wo.heap.size, 3, none⟩)) (want_t rfl rfl rfl) (fun h w' hC => q_fa (p := .pointer (some ⟨wo.heap.size, 0, none⟩)) rfl rfl (fa_lt _ 0 3 (by decide) _)) ?_
                refine wk_grd (b := e1) (v := .int .i64 l.id) (want_t rfl rfl rfl) (fun h w' hC => q_ld (p := .pointer (some ⟨wo.heap.size, 3, none⟩)) rfl (cnd h) (ld_int (by rw [hC]; exact a3))) ?_
                refine wk_grd (b := e1) (v := .bool (e2)) (want_t rfl rfl rfl) (fun h w' hC => q_bin (X := .int .i64 r.id) (Y := .int .i64 l.id) rfl (cnd h) (cnd h) (bo_eql he2)) ?_
                refine wk_one (v := .bool (e1 && e2)) rfl (fun w' hC => q_and rfl (fun _ => hrc _) rfl rfl) ?_
                refine wk_one (v := .bool (e1 && e2)) rfl (fun w' hC => q_move rfl rfl) ?_
                refine wk_grd (b := e1 && e2) (v := .pointer (some ⟨wr.heap.size, 4, none⟩)) (want_t rfl rfl rfl) (fun h w' hC => q_fa (p := .pointer (some ⟨wr.heap.size, 0, none⟩)) rfl rfl (fa_lt _ 0 4 (by decide) _)) ?_
                refine wk_grd (b := e1 && e2) (v := .int .i64 r.sign) (want_t rfl rfl rfl) (fun h w' hC => q_ld (p := .pointer (some ⟨wr.heap.size, 4, none⟩)) rfl (cnd h) (ld_int (by rw [hC]; exact b4))) ?_
                refine wk_grd (b := e1 && e2) (v := .pointer (some ⟨wo.heap.size, 4, none⟩)) (want_t rfl rfl rfl) (fun h w' hC => q_fa (p := .pointer (some ⟨wo.heap.size, 0, none⟩)) rfl rfl (fa_lt _ 0 4 (by decide) _)) ?_
                refine wk_grd (b := e1 && e2) (v := .int .i64 l.sign) (want_t rfl rfl rfl) (fun h w' hC => q_ld (p := .pointer (some ⟨wo.heap.size, 4, none⟩)) rfl (cnd h) (ld_int (by rw [hC]; exact a4))) ?_
                refine wk_grd (b := e1 && e2) (v := .bool (e3)) (want_t rfl rfl rfl) (fun h w' hC => q_bin (X := .int .i64 r.sign) (Y := .int .i64 l.sign) rfl (cnd h) (cnd h) (bo_eql he3)) ?_
                refine wk_one (v := .bool ((e1 && e2) && e3)) rfl (fun w' hC => q_and rfl (fun _ => hrc _) rfl rfl) ?_
                refine wk_one (v := .bool ((e1 && e2) && e3)) rfl (fun w' hC => q_move rfl rfl) ?_
                refine wk_grd (b := (e1 && e2) && e3) (v := .pointer (some ⟨wr.heap.size, 5, none⟩)) (want_t rfl rfl rfl) (fun h w' hC => q_fa (p := .pointer (some ⟨wr.heap.size, 0, none⟩)) rfl rfl (fa_lt _ 0 5 (by decide) _)) ?_
                refine wk_grd (b := (e1 && e2) && e3) (v := .bool (r.over)) (want_t rfl rfl rfl) (fun h w' hC => q_ld (p := .pointer (some ⟨wr.heap.size, 5, none⟩)) rfl (cnd h) (ld_bool (by rw [hC]; exact b5))) ?_
                refine wk_grd (b := (e1 && e2) && e3) (v := .pointer (some ⟨wo.heap.size, 5, none⟩)) (want_t rfl rfl rfl) (fun h w' hC => q_fa (p := .pointer (some ⟨wo.heap.size, 0, none⟩)) rfl rfl (fa_lt _ 0 5 (by decide) _)) ?_
                refine wk_grd (b := (e1 && e2) && e3) (v := .bool (l.over)) (want_t rfl rfl rfl) (fun h w' hC => q_ld (p := .pointer (some ⟨wo.heap.size, 5, none⟩)) rfl (cnd h) (ld_bool (by rw [hC]; exact a5))) ?_
                refine wk_grd (b := (e1 && e2) && e3) (v := .bool (e4)) (want_t rfl rfl rfl) (fun h w' hC => q_bin (X := .bool (r.over)) (Y := .bool (l.over)) rfl (cnd h) (cnd h) (bo_neqB he4)) ?_
                refine wk_one (v := .bool (((e1 && e2) && e3) && e4)) rfl (fun w' hC => q_and rfl (fun _ => hrc _) rfl rfl) ?_
                intro wx hwx
                have hf := Lib.hid (show (((e1 && e2) && e3) && e4) = prB l r by subst he1 he2 he3 he4; rfl)
                clear hrc hrf r0
                rw [frm_upd]
                refine hM1 _ _ (Met.intro (hJ1 _ _ ?_))
                repeat apply Exists.intro
                refine ⟨?rel, rfl⟩
                case rel => exact ⟨congrArg Value.bool hf.out, hwx⟩
              case rest =>
                obtain ⟨rfl, hv⟩ := hcut
                obtain rfl := hv.symm
                cases hp : prB l r with
                | true =>
                  rw [hp] at E2
                  have HP := Lib.hid hp
                  clear hp
                  go_wp2_with fail
                  go_roundw
                  case rel => exact ⟨j + 1, by omega, by go_num, by rw [E1.out]; rfl, by rw [E2.out]; go_num, hbW, hB4⟩
                  case measure => simp [intOf]; omega
                | false =>
                  rw [hp] at E2
                  have HP := Lib.hid hp
                  clear hp
                  go_wp2_with fail
                  go_roundw
                  case rel => exact ⟨j + 1, by omega, by go_num, by rw [E1.out]; rfl, by rw [E2.out]; rfl, hbW, hB4⟩
                  case measure => simp [intOf]; omega
        · have hjn' : j = n := by omega
          subst hjn'
          have hkl := HL.out
          have hAj := hA.below hbb.below
          obtain ⟨l, hl⟩ : ∃ l, l = la L k := ⟨_, rfl⟩
          have HLK := Lib.hid hl
          rw [← hl] at hbk hsm hpr hok z0 z1 z2 z3 z4 z5 ⊢
          have hno := Lib.hid (show rlB K L l = false → lettersR K L = false from fun h => lettersR_no hkl hlt (by rw [← HLK.out]; exact h))
          have hyes := Lib.hid (show rlB K L l = true → allTo (fun i => rlB K L (la L i)) (k + 1) = true from fun h => allTo_step HK.out (by rw [← HLK.out]; exact h))
          clear hl hk0 hk1 h0 h1 h2 h3 h4 h5 HK
          have hltb : w.heap.size < wr.heap.size := World.block_lt_of_cell? _ _ c0
          by_cases hp : l.kind = 1
          · have hkk := Lib.hid hp
            have hp1 : (l.kind == 1) = true := by simpa using hp
            clear hp
            obtain ⟨a1, ha1⟩ : ∃ b, (l.id != 0) = b := ⟨_, rfl⟩
            obtain ⟨a2, ha2⟩ : ∃ b, (l.sign != 0) = b := ⟨_, rfl⟩
            obtain ⟨a3, ha3⟩ : ∃ b, decide (l.gate < 0) = b := ⟨_, rfl⟩
            obtain ⟨a4, ha4⟩ : ∃ b, decide (K < l.gate) = b := ⟨_, rfl⟩
            obtain ⟨a5, ha5⟩ : ∃ b, decide (l.rank < 1) = b := ⟨_, rfl⟩
            obtain ⟨a6, ha6⟩ : ∃ b, decide (((gN L l.gate j : Nat) : Int) < l.rank) = b := ⟨_, rfl⟩
            obtain ⟨a7, ha7⟩ : ∃ b, (((smN L l j : Nat) : Int) != 1) = b := ⟨_, rfl⟩
            go_upto_region 17 with fail
            go_cut [127] (fun v127 wx => v127 = .bool (!rlB K L l) ∧ Below wr.heap.size wr wx)
            case first =>
              rename_i hJ1 hM1
              refine wk_region (C := fun w' => Below wr.heap.size wr w') 172 [(4, .pointer (some ⟨wo.heap.size, 0, none⟩)), (1, .pointer (some ⟨w.heap.size, 0, none⟩)), (5, .int .i64 (smN L l j : Nat)), (6, .int .i64 (prN L l j : Nat))] (by kernel_rfl) (by kernel_rfl) rfl (by kernel_rfl) (by intro q hq; simp at hq; rcases hq with rfl | rfl | rfl | rfl <;> simp) (frm_same (frm_same (frm_same (frm_same rfl (by simp) rfl) (by simp) rfl) (by simp) rfl) (by simp) rfl) ((Below.refl _ _).drew) ?_
              intro r hrc hrf
              refine wk_one (v := .pointer (some ⟨wo.heap.size, 3, none⟩)) rfl (fun w' hC => q_fa (p := .pointer (some ⟨wo.heap.size, 0, none⟩)) rfl rfl (fa_lt _ 0 3 (by decide) _)) ?_
              refine wk_one (v := .int .i64 l.id) rfl (fun w' hC => q_ld (p := .pointer (some ⟨wo.heap.size, 3, none⟩)) rfl rfl (ld_int ((hC.cell (p := ⟨wo.heap.size, 3, none⟩) hltw).trans z3))) ?_
              refine wk_one (v := .bool (a1)) rfl (fun w' hC => q_bin (X := .int .i64 l.id) (Y := .int .i64 0) rfl rfl (hrc _) (bo_neq ha1)) ?_
              refine wk_one (v := .bool (a1)) rfl (fun w' hC => q_move rfl rfl) ?_
              refine wk_grd (b := !(a1)) (v := .pointer (some ⟨wo.heap.size, 4, none⟩)) (want_f rfl rfl rfl) (fun h w' hC => q_fa (p := .pointer (some ⟨wo.heap.size, 0, none⟩)) rfl rfl (fa_lt _ 0 4 (by decide) _)) ?_
              refine wk_grd (b := !(a1)) (v := .int .i64 l.sign) (want_f rfl rfl rfl) (fun h w' hC => q_ld (p := .pointer (some ⟨wo.heap.size, 4, none⟩)) rfl (cnd h) (ld_int ((hC.cell (p := ⟨wo.heap.size, 4, none⟩) hltw).trans z4))) ?_
              refine wk_grd (b := !(a1)) (v := .bool (a2)) (want_f rfl rfl rfl) (fun h w' hC => q_bin (X := .int .i64 l.sign) (Y := .int .i64 0) rfl (cnd h) (hrc _) (bo_neq ha2)) ?_
              refine wk_one (v := .bool (a1 || a2)) rfl (fun w' hC => q_or rfl (fun _ => hrc _) rfl rfl) ?_
              refine wk_one (v := .bool (a1 || a2)) rfl (fun w' hC => q_move rfl rfl) ?_
              refine wk_grd (b := !(a1 || a2)) (v := .pointer (some ⟨wo.heap.size, 5, none⟩)) (want_f rfl rfl rfl) (fun h w' hC => q_fa (p := .pointer (some ⟨wo.heap.size, 0, none⟩)) rfl rfl (fa_lt _ 0 5 (by decide) _)) ?_
              refine wk_grd (b := !(a1 || a2)) (v := .bool (l.over)) (want_f rfl rfl rfl) (fun h w' hC => q_ld (p := .pointer (some ⟨wo.heap.size, 5, none⟩)) rfl (cnd h) (ld_bool ((hC.cell (p := ⟨wo.heap.size, 5, none⟩) hltw).trans z5))) ?_
              refine wk_one (v := .bool ((a1 || a2) || l.over)) rfl (fun w' hC => q_or rfl (fun _ => hrc _) rfl rfl) ?_
              refine wk_one (v := .bool ((a1 || a2) || l.over)) rfl (fun w' hC => q_move rfl rfl) ?_
              refine wk_grd (b := !((a1 || a2) || l.over)) (v := .pointer (some ⟨wo.heap.size, 1, none⟩)) (want_f rfl rfl rfl) (fun h w' hC => q_fa (p := .pointer (some ⟨wo.heap.size, 0, none⟩)) rfl rfl (fa_lt _ 0 1 (by decide) _)) ?_
              refine wk_grd (b := !((a1 || a2) || l.over)) (v := .int .i64 l.gate) (want_f rfl rfl rfl) (fun h w' hC => q_ld (p := .pointer (some ⟨wo.heap.size, 1, none⟩)) rfl (cnd h) (ld_int ((hC.cell (p := ⟨wo.heap.size, 1, none⟩) hltw).trans z1))) ?_
              refine wk_grd (b := !((a1 || a2) || l.over)) (v := .bool (a3)) (want_f rfl rfl rfl) (fun h w' hC => q_bin (X := .int .i64 l.gate) (Y := .int .i64 0) rfl (cnd h) (hrc _) (bo_lss ha3)) ?_
              refine wk_one (v := .bool (((a1 || a2) || l.over) || a3)) rfl (fun w' hC => q_or rfl (fun _ => hrc _) rfl rfl) ?_
              refine wk_one (v := .bool (((a1 || a2) || l.over) || a3)) rfl (fun w' hC => q_move rfl rfl) ?_
              refine wk_grd (b := !(((a1 || a2) || l.over) || a3)) (v := .pointer (some ⟨wo.heap.size, 1, none⟩)) (want_f rfl rfl rfl) (fun h w' hC => q_fa (p := .pointer (some ⟨wo.heap.size, 0, none⟩)) rfl rfl (fa_lt _ 0 1 (by decide) _)) ?_
              refine wk_grd (b := !(((a1 || a2) || l.over) || a3)) (v := .int .i64 l.gate) (want_f rfl rfl rfl) (fun h w' hC => q_ld (p := .pointer (some ⟨wo.heap.size, 1, none⟩)) rfl (cnd h) (ld_int ((hC.cell (p := ⟨wo.heap.size, 1, none⟩) hltw).trans z1))) ?_
              refine wk_grd (b := !(((a1 || a2) || l.over) || a3)) (v := .pointer (some ⟨w.heap.size, 0, none⟩)) (want_f rfl rfl rfl) (fun h w' hC => q_fa (p := .pointer (some ⟨w.heap.size, 0, none⟩)) rfl rfl (fa_code _ 0 0 (by decide) _)) ?_
              refine wk_grd (b := !(((a1 || a2) || l.over) || a3)) (v := .int .i64 K) (want_f rfl rfl rfl) (fun h w' hC => q_ld (p := .pointer (some ⟨w.heap.size, 0, none⟩)) rfl (cnd h) (ld_int ((hC.cell (p := ⟨w.heap.size, 0, none⟩) hltb).trans c0))) ?_
              refine wk_grd (b := !(((a1 || a2) || l.over) || a3)) (v := .bool (a4)) (want_f rfl rfl rfl) (fun h w' hC => q_bin (X := .int .i64 l.gate) (Y := .int .i64 K) rfl (cnd h) (cnd h) (bo_gtr ha4)) ?_
              refine wk_one (v := .bool ((((a1 || a2) || l.over) || a3) || a4)) rfl (fun w' hC => q_or rfl (fun _ => hrc _) rfl rfl) ?_
              refine wk_one (v := .bool ((((a1 || a2) || l.over) || a3) || a4)) rfl (fun w' hC => q_move rfl rfl) ?_
              refine wk_grd (b := !((((a1 || a2) || l.over) || a3) || a4)) (v := .pointer (some ⟨wo.heap.size, 2, none⟩)) (want_f rfl rfl rfl) (fun h w' hC => q_fa (p := .pointer (some ⟨wo.heap.size, 0, none⟩)) rfl rfl (fa_lt _ 0 2 (by decide) _)) ?_
              refine wk_grd (b := !((((a1 || a2) || l.over) || a3) || a4)) (v := .int .i64 l.rank) (want_f rfl rfl rfl) (fun h w' hC => q_ld (p := .pointer (some ⟨wo.heap.size, 2, none⟩)) rfl (cnd h) (ld_int ((hC.cell (p := ⟨wo.heap.size, 2, none⟩) hltw).trans z2))) ?_
              refine wk_grd (b := !((((a1 || a2) || l.over) || a3) || a4)) (v := .bool (a5)) (want_f rfl rfl rfl) (fun h w' hC => q_bin (X := .int .i64 l.rank) (Y := .int .i64 1) rfl (cnd h) (hrc _) (bo_lss ha5)) ?_
              refine wk_one (v := .bool (((((a1 || a2) || l.over) || a3) || a4) || a5)) rfl (fun w' hC => q_or rfl (fun _ => hrc _) rfl rfl) ?_
              refine wk_one (v := .bool (((((a1 || a2) || l.over) || a3) || a4) || a5)) rfl (fun w' hC => q_move rfl rfl) ?_
              refine wk_grd (b := !(((((a1 || a2) || l.over) || a3) || a4) || a5)) (v := .pointer (some ⟨wo.heap.size, 2, none⟩)) (want_f rfl rfl rfl) (fun h w' hC => q_fa (p := .pointer (some ⟨wo.heap.size, 0, none⟩)) rfl rfl (fa_lt _ 0 2 (by decide) _)) ?_
              refine wk_grd (b := !(((((a1 || a2) || l.over) || a3) || a4) || a5)) (v := .int .i64 l.rank) (want_f rfl rfl rfl) (fun h w' hC => q_ld (p := .pointer (some ⟨wo.heap.size, 2, none⟩)) rfl (cnd h) (ld_int ((hC.cell (p := ⟨wo.heap.size, 2, none⟩) hltw).trans z2))) ?_
              refine wk_grd (b := !(((((a1 || a2) || l.over) || a3) || a4) || a5)) (v := .agg #[.int .i64 K, .slice (some ⟨g, o, none⟩) j c]) (want_f rfl rfl rfl) (fun h w' hC => q_ld (p := .pointer (some ⟨w.heap.size, 0, none⟩)) rfl rfl (ld_code ((hC.cell (p := ⟨w.heap.size, 0, none⟩) hltb).trans c0) ((hC.cell (p := ⟨w.heap.size, 1, none⟩) hltb).trans c1))) ?_
              refine wk_grd (b := !(((((a1 || a2) || l.over) || a3) || a4) || a5)) (v := .pointer (some ⟨wo.heap.size, 1, none⟩)) (want_f rfl rfl rfl) (fun h w' hC => q_fa (p := .pointer (some ⟨wo.heap.size, 0, none⟩)) rfl rfl (fa_lt _ 0 1 (by decide) _)) ?_
              refine wk_grd (b := !(((((a1 || a2) || l.over) || a3) || a4) || a5)) (v := .int .i64 l.gate) (want_f rfl rfl rfl) (fun h w' hC => q_ld (p := .pointer (some ⟨wo.heap.size, 1, none⟩)) rfl (cnd h) (ld_int ((hC.cell (p := ⟨wo.heap.size, 1, none⟩) hltw).trans z1))) ?_
              refine wk_grd (b := !(((((a1 || a2) || l.over) || a3) || a4) || a5)) (v := .int .i64 (gN L l.gate j : Nat)) (want_f rfl rfl rfl) (fun h w' hC => q_call (vs := #[.agg #[.int .i64 K, .slice (some ⟨g, o, none⟩) j c], .int .i64 l.gate]) rfl (hrf _) (map2 (cnd h) (cnd h)) (en_In _ _) ((ref_In K l.gate (some ⟨g, o, none⟩) j c L _ (hAj.below hC)).mono fun _ _ ⟨he, hb⟩ => ⟨he, below_chain hC hb hC.size⟩)) ?_
              refine wk_grd (b := !(((((a1 || a2) || l.over) || a3) || a4) || a5)) (v := .bool (a6)) (want_f rfl rfl rfl) (fun h w' hC => q_bin (X := .int .i64 l.rank) (Y := .int .i64 (gN L l.gate j : Nat)) rfl (cnd h) (cnd h) (bo_gtr ha6)) ?_
              refine wk_one (v := .bool ((((((a1 || a2) || l.over) || a3) || a4) || a5) || a6)) rfl (fun w' hC => q_or rfl (fun _ => hrc _) rfl rfl) ?_
              refine wk_one (v := .bool ((((((a1 || a2) || l.over) || a3) || a4) || a5) || a6)) rfl (fun w' hC => q_move rfl rfl) ?_
              refine wk_grd (b := !((((((a1 || a2) || l.over) || a3) || a4) || a5) || a6)) (v := .int .i64 (smN L l j : Nat)) (want_f rfl rfl rfl) (fun h w' hC => q_move rfl rfl) ?_
              refine wk_grd (b := !((((((a1 || a2) || l.over) || a3) || a4) || a5) || a6)) (v := .bool (a7)) (want_f rfl rfl rfl) (fun h w' hC => q_bin (X := .int .i64 (smN L l j : Nat)) (Y := .int .i64 1) rfl (cnd h) (hrc _) (bo_neq ha7)) ?_
              refine wk_one (v := .bool (((((((a1 || a2) || l.over) || a3) || a4) || a5) || a6) || a7)) rfl (fun w' hC => q_or rfl (fun _ => hrc _) rfl rfl) ?_
              intro wx hwx
              have hf := Lib.hid (show (((((((a1 || a2) || l.over) || a3) || a4) || a5) || a6) || a7) = !rlB K L l by subst ha1 ha2 ha3 ha4 ha5 ha6 ha7; unfold rlB; rw [if_pos hkk.out, hkl, Bool.eq_iff_iff]; cases l.over <;> simp <;> omega)
              clear hrc hrf r
              rw [frm_upd]
              refine hM1 _ _ (Met.intro (hJ1 _ _ ?_))
              repeat apply Exists.intro
              refine ⟨?rel, rfl⟩
              case rel => exact ⟨congrArg Value.bool hf.out, hwx⟩
            case rest =>
              obtain ⟨rfl, hbx⟩ := hcut
              cases hs : rlB K L l with
              | true =>
                have HS := Lib.hid (hyes.out hs)
                have hbf := hbb.more hbx
                clear hs hno hyes
                go_wp2_with fail
                go_roundw
                case rel => exact ⟨k + 1, by omega, by go_num, hbf, HS⟩
                case measure => simp [intOf]; omega
              | false =>
                have HS := Lib.hid (hno.out hs)
                clear hs hno hyes
                go_wp2_with fail
                go_ret
                exact ⟨ret_bool HS.out.symm, (hbb.more hbx).below⟩
          · have hkk := Lib.hid hp
            have hp1 : (l.kind == 1) = false := by simpa using hp
            by_cases hp2 : l.kind = 2
            · have hkk2 := Lib.hid hp2
              have hp3 : (l.kind == 2) = true := by simpa using hp2
              have hcn := cN_le L j
              have hj6 : cN L j ≤ 1000000 := by omega
              clear hp hp2
              obtain ⟨a1, ha1⟩ : ∃ b, (l.gate != 0) = b := ⟨_, rfl⟩
              obtain ⟨a2, ha2⟩ : ∃ b, (l.rank != 0) = b := ⟨_, rfl⟩
              obtain ⟨a3, ha3⟩ : ∃ b, (l.sign != 1) = b := ⟨_, rfl⟩
              obtain ⟨a4, ha4⟩ : ∃ b, (l.sign != -1) = b := ⟨_, rfl⟩
              obtain ⟨a5, ha5⟩ : ∃ b, decide (l.id < 1) = b := ⟨_, rfl⟩
              obtain ⟨a6, ha6⟩ : ∃ b, decide (((cN L j / 2 : Nat) : Int) < l.id) = b := ⟨_, rfl⟩
              obtain ⟨a7, ha7⟩ : ∃ b, (((prN L l j : Nat) : Int) != 1) = b := ⟨_, rfl⟩
              obtain ⟨a8, ha8⟩ : ∃ b, (((tN L l.id j : Nat) : Int) != 2) = b := ⟨_, rfl⟩
              go_upto_region 20 with fail
              go_cut [171] (fun v171 wx => v171 = .bool (!rlB K L l) ∧ Below wr.heap.size wr wx)
              case first =>
                rename_i hJ1 hM1
                refine wk_region (C := fun w' => Below wr.heap.size wr w') 172 [(4, .pointer (some ⟨wo.heap.size, 0, none⟩)), (1, .pointer (some ⟨w.heap.size, 0, none⟩)), (5, .int .i64 (smN L l j : Nat)), (6, .int .i64 (prN L l j : Nat))] (by kernel_rfl) (by kernel_rfl) rfl (by kernel_rfl) (by intro q hq; simp at hq; rcases hq with rfl | rfl | rfl | rfl <;> simp) (frm_same (frm_same (frm_same (frm_same rfl (by simp) rfl) (by simp) rfl) (by simp) rfl) (by simp) rfl) ((Below.refl _ _).drew) ?_
                intro r hrc hrf
                refine wk_one (v := .pointer (some ⟨wo.heap.size, 1, none⟩)) rfl (fun w' hC => q_fa (p := .pointer (some ⟨wo.heap.size, 0, none⟩)) rfl rfl (fa_lt _ 0 1 (by decide) _)) ?_
                refine wk_one (v := .int .i64 l.gate) rfl (fun w' hC => q_ld (p := .pointer (some ⟨wo.heap.size, 1, none⟩)) rfl rfl (ld_int ((hC.cell (p := ⟨wo.heap.size, 1, none⟩) hltw).trans z1))) ?_
                refine wk_one (v := .bool (a1)) rfl (fun w' hC => q_bin (X := .int .i64 l.gate) (Y := .int .i64 0) rfl rfl (hrc _) (bo_neq ha1)) ?_
                refine wk_one (v := .bool (a1)) rfl (fun w' hC => q_move rfl rfl) ?_
                refine wk_grd (b := !(a1)) (v := .pointer (some ⟨wo.heap.size, 2, none⟩)) (want_f rfl rfl rfl) (fun h w' hC => q_fa (p := .pointer (some ⟨wo.heap.size, 0, none⟩)) rfl rfl (fa_lt _ 0 2 (by decide) _)) ?_
                refine wk_grd (b := !(a1)) (v := .int .i64 l.rank) (want_f rfl rfl rfl) (fun h w' hC => q_ld (p := .pointer (some ⟨wo.heap.size, 2, none⟩)) rfl (cnd h) (ld_int ((hC.cell (p := ⟨wo.heap.size, 2, none⟩) hltw).trans z2))) ?_
                refine wk_grd (b := !(a1)) (v := .bool (a2)) (want_f rfl rfl rfl) (fun h w' hC => q_bin (X := .int .i64 l.rank) (Y := .int .i64 0) rfl (cnd h) (hrc _) (bo_neq ha2)) ?_
                refine wk_one (v := .bool (a1 || a2)) rfl (fun w' hC => q_or rfl (fun _ => hrc _) rfl rfl) ?_
                refine wk_one (v := .bool (a1 || a2)) rfl (fun w' hC => q_move rfl rfl) ?_
                refine wk_grd (b := !(a1 || a2)) (v := .pointer (some ⟨wo.heap.size, 4, none⟩)) (want_f rfl rfl rfl) (fun h w' hC => q_fa (p := .pointer (some ⟨wo.heap.size, 0, none⟩)) rfl rfl (fa_lt _ 0 4 (by decide) _)) ?_
                refine wk_grd (b := !(a1 || a2)) (v := .int .i64 l.sign) (want_f rfl rfl rfl) (fun h w' hC => q_ld (p := .pointer (some ⟨wo.heap.size, 4, none⟩)) rfl (cnd h) (ld_int ((hC.cell (p := ⟨wo.heap.size, 4, none⟩) hltw).trans z4))) ?_
                refine wk_grd (b := !(a1 || a2)) (v := .bool (a3)) (want_f rfl rfl rfl) (fun h w' hC => q_bin (X := .int .i64 l.sign) (Y := .int .i64 1) rfl (cnd h) (hrc _) (bo_neq ha3)) ?_
                refine wk_grd (b := !(a1 || a2)) (v := .bool (a3)) (want_f rfl rfl rfl) (fun h w' hC => q_move rfl (cnd h)) ?_
                refine wk_grd (b := (!(a1 || a2)) && (a3)) (v := .pointer (some ⟨wo.heap.size, 4, none⟩)) (want_ct rfl rfl rfl) (fun h w' hC => q_fa (p := .pointer (some ⟨wo.heap.size, 0, none⟩)) rfl rfl (fa_lt _ 0 4 (by decide) _)) ?_
                refine wk_grd (b := (!(a1 || a2)) && (a3)) (v := .int .i64 l.sign) (want_ct rfl rfl rfl) (fun h w' hC => q_ld (p := .pointer (some ⟨wo.heap.size, 4, none⟩)) rfl (cnd h) (ld_int ((hC.cell (p := ⟨wo.heap.size, 4, none⟩) hltw).trans z4))) ?_
                refine wk_grd (b := (!(a1 || a2)) && (a3)) (v := .bool (a4)) (want_ct rfl rfl rfl) (fun h w' hC => q_bin (X := .int .i64 l.sign) (Y := .int .i64 (-1)) rfl (cnd h) (hrc _) (bo_neq ha4)) ?_
                refine wk_grd (b := !(a1 || a2)) (v := .bool (a3 && a4)) (want_f rfl rfl rfl) (fun h w' hC => q_and rfl (fun _ => hrc _) (cnd h) (by rw [show look _ _ (.tmp 145) = cond ((!(a1 || a2)) && (a3)) (.bool (a4)) undef from rfl, h]; rfl)) ?_
                refine wk_one (v := .bool ((a1 || a2) || (a3 && a4))) rfl (fun w' hC => q_or rfl (fun _ => hrc _) rfl rfl) ?_
                refine wk_one (v := .bool ((a1 || a2) || (a3 && a4))) rfl (fun w' hC => q_move rfl rfl) ?_
                refine wk_grd (b := !((a1 || a2) || (a3 && a4))) (v := .pointer (some ⟨wo.heap.size, 3, none⟩)) (want_f rfl rfl rfl) (fun h w' hC => q_fa (p := .pointer (some ⟨wo.heap.size, 0, none⟩)) rfl rfl (fa_lt _ 0 3 (by decide) _)) ?_
                refine wk_grd (b := !((a1 || a2) || (a3 && a4))) (v := .int .i64 l.id) (want_f rfl rfl rfl) (fun h w' hC => q_ld (p := .pointer (some ⟨wo.heap.size, 3, none⟩)) rfl (cnd h) (ld_int ((hC.cell (p := ⟨wo.heap.size, 3, none⟩) hltw).trans z3))) ?_
                refine wk_grd (b := !((a1 || a2) || (a3 && a4))) (v := .bool (a5)) (want_f rfl rfl rfl) (fun h w' hC => q_bin (X := .int .i64 l.id) (Y := .int .i64 1) rfl (cnd h) (hrc _) (bo_lss ha5)) ?_
                refine wk_one (v := .bool (((a1 || a2) || (a3 && a4)) || a5)) rfl (fun w' hC => q_or rfl (fun _ => hrc _) rfl rfl) ?_
                refine wk_one (v := .bool (((a1 || a2) || (a3 && a4)) || a5)) rfl (fun w' hC => q_move rfl rfl) ?_
                refine wk_grd (b := !(((a1 || a2) || (a3 && a4)) || a5)) (v := .pointer (some ⟨wo.heap.size, 3, none⟩)) (want_f rfl rfl rfl) (fun h w' hC => q_fa (p := .pointer (some ⟨wo.heap.size, 0, none⟩)) rfl rfl (fa_lt _ 0 3 (by decide) _)) ?_
                refine wk_grd (b := !(((a1 || a2) || (a3 && a4)) || a5)) (v := .int .i64 l.id) (want_f rfl rfl rfl) (fun h w' hC => q_ld (p := .pointer (some ⟨wo.heap.size, 3, none⟩)) rfl (cnd h) (ld_int ((hC.cell (p := ⟨wo.heap.size, 3, none⟩) hltw).trans z3))) ?_
                refine wk_grd (b := !(((a1 || a2) || (a3 && a4)) || a5)) (v := .agg #[.int .i64 K, .slice (some ⟨g, o, none⟩) j c]) (want_f rfl rfl rfl) (fun h w' hC => q_ld (p := .pointer (some ⟨w.heap.size, 0, none⟩)) rfl rfl (ld_code ((hC.cell (p := ⟨w.heap.size, 0, none⟩) hltb).trans c0) ((hC.cell (p := ⟨w.heap.size, 1, none⟩) hltb).trans c1))) ?_
                refine wk_grd (b := !(((a1 || a2) || (a3 && a4)) || a5)) (v := .int .i64 (cN L j : Nat)) (want_f rfl rfl rfl) (fun h w' hC => q_call (vs := #[.agg #[.int .i64 K, .slice (some ⟨g, o, none⟩) j c]]) rfl (hrf _) (map1 (cnd h)) (en_visits _ _) ((ref_visits K (some ⟨g, o, none⟩) j c L _ (hAj.below hC)).mono fun _ _ ⟨he, hb⟩ => ⟨he, below_chain hC hb hC.size⟩)) ?_
                refine wk_grd (b := !(((a1 || a2) || (a3 && a4)) || a5)) (v := .int .i64 ((cN L j / 2 : Nat) : Int)) (want_f rfl rfl rfl) (fun h w' hC => q_bin (X := .int .i64 (cN L j : Nat)) (Y := .int .i64 2) rfl (cnd h) (hrc _) (bo_half _ hj6)) ?_
                refine wk_grd (b := !(((a1 || a2) || (a3 && a4)) || a5)) (v := .bool (a6)) (want_f rfl rfl rfl) (fun h w' hC => q_bin (X := .int .i64 l.id) (Y := .int .i64 ((cN L j / 2 : Nat) : Int)) rfl (cnd h) (cnd h) (bo_gtr ha6)) ?_
                refine wk_one (v := .bool ((((a1 || a2) || (a3 && a4)) || a5) || a6)) rfl (fun w' hC => q_or rfl (fun _ => hrc _) rfl rfl) ?_
                refine wk_one (v := .bool ((((a1 || a2) || (a3 && a4)) || a5) || a6)) rfl (fun w' hC => q_move rfl rfl) ?_
                refine wk_grd (b := !((((a1 || a2) || (a3 && a4)) || a5) || a6)) (v := .int .i64 (prN L l j : Nat)) (want_f rfl rfl rfl) (fun h w' hC => q_move rfl rfl) ?_
                refine wk_grd (b := !((((a1 || a2) || (a3 && a4)) || a5) || a6)) (v := .bool (a7)) (want_f rfl rfl rfl) (fun h w' hC => q_bin (X := .int .i64 (prN L l j : Nat)) (Y := .int .i64 1) rfl (cnd h) (hrc _) (bo_neq ha7)) ?_
                refine wk_one (v := .bool (((((a1 || a2) || (a3 && a4)) || a5) || a6) || a7)) rfl (fun w' hC => q_or rfl (fun _ => hrc _) rfl rfl) ?_
                refine wk_one (v := .bool (((((a1 || a2) || (a3 && a4)) || a5) || a6) || a7)) rfl (fun w' hC => q_move rfl rfl) ?_
                refine wk_grd (b := !(((((a1 || a2) || (a3 && a4)) || a5) || a6) || a7)) (v := .agg #[.int .i64 K, .slice (some ⟨g, o, none⟩) j c]) (want_f rfl rfl rfl) (fun h w' hC => q_ld (p := .pointer (some ⟨w.heap.size, 0, none⟩)) rfl rfl (ld_code ((hC.cell (p := ⟨w.heap.size, 0, none⟩) hltb).trans c0) ((hC.cell (p := ⟨w.heap.size, 1, none⟩) hltb).trans c1))) ?_
                refine wk_grd (b := !(((((a1 || a2) || (a3 && a4)) || a5) || a6) || a7)) (v := .pointer (some ⟨wo.heap.size, 3, none⟩)) (want_f rfl rfl rfl) (fun h w' hC => q_fa (p := .pointer (some ⟨wo.heap.size, 0, none⟩)) rfl rfl (fa_lt _ 0 3 (by decide) _)) ?_
                refine wk_grd (b := !(((((a1 || a2) || (a3 && a4)) || a5) || a6) || a7)) (v := .int .i64 l.id) (want_f rfl rfl rfl) (fun h w' hC => q_ld (p := .pointer (some ⟨wo.heap.size, 3, none⟩)) rfl (cnd h) (ld_int ((hC.cell (p := ⟨wo.heap.size, 3, none⟩) hltw).trans z3))) ?_
                refine wk_grd (b := !(((((a1 || a2) || (a3 && a4)) || a5) || a6) || a7)) (v := .int .i64 (tN L l.id j : Nat)) (want_f rfl rfl rfl) (fun h w' hC => q_call (vs := #[.agg #[.int .i64 K, .slice (some ⟨g, o, none⟩) j c], .int .i64 l.id]) rfl (hrf _) (map2 (cnd h) (cnd h)) (en_times _ _) ((ref_times K l.id (some ⟨g, o, none⟩) j c L _ (hAj.below hC)).mono fun _ _ ⟨he, hb⟩ => ⟨he, below_chain hC hb hC.size⟩)) ?_
                refine wk_grd (b := !(((((a1 || a2) || (a3 && a4)) || a5) || a6) || a7)) (v := .bool (a8)) (want_f rfl rfl rfl) (fun h w' hC => q_bin (X := .int .i64 (tN L l.id j : Nat)) (Y := .int .i64 2) rfl (cnd h) (hrc _) (bo_neq ha8)) ?_
                refine wk_one (v := .bool ((((((a1 || a2) || (a3 && a4)) || a5) || a6) || a7) || a8)) rfl (fun w' hC => q_or rfl (fun _ => hrc _) rfl rfl) ?_
                intro wx hwx
                have hf := Lib.hid (show ((((((a1 || a2) || (a3 && a4)) || a5) || a6) || a7) || a8) = !rlB K L l by subst ha1 ha2 ha3 ha4 ha5 ha6 ha7 ha8; unfold rlB; rw [if_neg hkk.out, if_pos hkk2.out, hkl, Bool.eq_iff_iff]; simp; omega)
                clear hrc hrf r
                rw [frm_upd]
                refine hM1 _ _ (Met.intro (hJ1 _ _ ?_))
                repeat apply Exists.intro
                refine ⟨?rel, rfl⟩
                case rel => exact ⟨congrArg Value.bool hf.out, hwx⟩
              case rest =>
                obtain ⟨rfl, hbx⟩ := hcut
                cases hs : rlB K L l with
                | true =>
                  have HS := Lib.hid (hyes.out hs)
                  have hbf := hbb.more hbx
                  clear hs hno hyes
                  go_wp2_with fail
                  go_roundw
                  case rel => exact ⟨k + 1, by omega, by go_num, hbf, HS⟩
                  case measure => simp [intOf]; omega
                | false =>
                  have HS := Lib.hid (hno.out hs)
                  clear hs hno hyes
                  go_wp2_with fail
                  go_ret
                  exact ⟨ret_bool HS.out.symm, (hbb.more hbx).below⟩
            · have hp3 : (l.kind == 2) = false := by simpa using hp2
              have hf := Lib.hid (hno.out (by unfold rlB; rw [if_neg hp, if_neg hp2]))
              clear hp hp2 hno hyes
              go_wp2_with fail
              go_ret
              exact ⟨ret_bool hf.out.symm, hbb.below⟩
    · have hkn : k = n := by omega
      subst hkn
      have hf := Lib.hid (show lettersR K L = true by unfold lettersR; rw [HL.out]; exact HK.out)
      have hk0 := hb.c0
      have hk1 := hb.c1
      clear HK
      go_wp2_with fail
      go_ret
      exact ⟨ret_bool hf.out.symm, hb.below⟩
end Go.Proofs.YtkjcmppaapbabaaDoor
