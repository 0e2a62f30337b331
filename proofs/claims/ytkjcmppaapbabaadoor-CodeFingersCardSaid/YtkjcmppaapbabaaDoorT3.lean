/-
  Contracts: the document's Insert. Conditions: the letters read and are small; the place is one of the code's.
-/
import Derived.Test.YtkjcmppaapbabaaDoorT2
namespace Go.Proofs.YtkjcmppaapbabaaDoor
open Go.RowKit
set_option maxRecDepth 100000 in
set_option maxHeartbeats 6400000 in
theorem cref_Insert (K pg pl : Int) (A : Option Addr) (n c : Nat) (L : List Lt) (w : World) (hA : Lets w A n L) (hs : Tame K L) (hl0 : 0 ≤ pl) (hl1 : pl ≤ 400) :
    Calls Tryd.prog 40 #[.agg #[.int .i64 K, .slice A n c], .agg #[.int .i64 pg, .int .i64 pl]] w (GivesC w (K + 1) (insertL L pg pl)) := by
  have hle := hA.le
  have hLn := Lib.hid hA.len
  have hK0 := hs.lo
  have hK4 := hs.hi
  have HS := Lib.hid hs
  have hn4 : n ≤ 400 := by have := hs.len; have := hA.len; omega
  have hbx : Boxed w (((w.alloc (.cells #[.int .i64 K, .slice A n c] 24)).alloc (.cells #[.int .i64 pg, .int .i64 pl] 50)).alloc (.cells #[.int .i64 0, .slice none 0 0] 24)) K A n c := ((Boxed.refl w K A n c).alloc _).alloc _
  have hP0 : Blk (((w.alloc (.cells #[.int .i64 K, .slice A n c] 24)).alloc (.cells #[.int .i64 pg, .int .i64 pl] 50)).alloc (.cells #[.int .i64 0, .slice none 0 0] 24)) (w.heap.size + 1) 50 #[.int .i64 pg, .int .i64 pl] := Blk.alloc (heap_alloc2_new w _ _) _
  have hR0 : Blk (((w.alloc (.cells #[.int .i64 K, .slice A n c] 24)).alloc (.cells #[.int .i64 pg, .int .i64 pl] 50)).alloc (.cells #[.int .i64 0, .slice none 0 0] 24)) (w.heap.size + 1 + 1) 24 #[.int .i64 0, .slice none 0 0] := by
    unfold Blk
    rw [show w.heap.size + 1 + 1 = (w.alloc (.cells #[.int .i64 K, .slice A n c] 24)).heap.size + 1 by simp]
    exact heap_alloc2_new _ _ _
  clear hs
  go_enter Tryd.func40, Tryd.ntmps40
  go_wp2_with fail
  generalize ((w.alloc (.cells #[.int .i64 K, .slice A n c] 24)).alloc (.cells #[.int .i64 pg, .int .i64 pl] 50)).alloc (.cells #[.int .i64 0, .slice none 0 0] 24) = X at hbx hP0 hR0 ⊢
  refine (cref_Copy K A n c L _ (hA.below hbx.below)).mono ?_
  rintro e w1 ⟨A1, n1, c1, rfl, hown, hb1⟩
  obtain rfl : n1 = n := by rw [← hown.len, hLn.out]
  have hX := hR0.lt
  have hsz1 := hb1.size
  have hC0 : Cpy X (w1.alloc (.cells #[.int .i64 (K + 1), .slice A1 n1 c1] 24)) w1.heap.size (K + 1) A1 n1 c1 L :=
    ⟨hown.alloc _, Blk.new _ _ _, fun q hq => Nat.ne_of_lt (hown.row.lt q hq).2, hb1.alloc hsz1 _⟩
  have hst : Hid (Upto (insLt pg pl) L L 0) := Lib.hid (Upto.zero _ _)
  clear hb1 hown
  go_wp2_with fail
  go_loopw [6] (fun v6 wr => ∃ (i : Nat) (Lw : List Lt), i ≤ n1 ∧ v6 = .int .i64 i ∧ Cpy X wr w1.heap.size (K + 1) A1 n1 c1 Lw ∧ Hid (Upto (insLt pg pl) L Lw i)) (fun v6 _ => n1 - (intOf v6).toNat)
  case atStart => exact ⟨0, L, Nat.zero_le _, rfl, hC0, hst⟩
  case round =>
    obtain ⟨i, Lw, hi, rfl, hC, HU⟩ := hrel
    clear hC0 hst
    have hbw := below_chain hbx.below hC.old (by omega)
    have o0 := hC.c0
    have o1 := hC.c1
    have e0 := (hbx.more hC.old).c0
    have e1 := (hbx.more hC.old).c1
    have p0 : wr.cell? ⟨w.heap.size + 1, 0, none⟩ = some (.int .i64 pg) := ((hP0.below hC.old (by omega)).cell 0).trans rfl
    have p1 : wr.cell? ⟨w.heap.size + 1, 1, none⟩ = some (.int .i64 pl) := ((hP0.below hC.old (by omega)).cell 1).trans rfl
    have hszr := hC.old.size
    have hblt := hC.bk.lt
    by_cases hlt : i < n1
    · obtain ⟨ga, oa, rfl, hga, hxa, hok⟩ := (hA.below hbw).at_ hlt
      obtain ⟨gg, o, rfl, hgg, hx, _⟩ := hC.own.lets.at_ hlt
      have hlw : la Lw i = la L i := by rw [HU.out.2 i (by rw [hLn.out]; exact hlt), if_neg (by omega)]
      have hgi : Lw[i]? = some (la L i) := by rw [la_get (by rw [hC.own.len]; exact hlt), hlw]
      rw [hlw] at hx
      obtain ⟨y0, y1, y2, y3, y4, y5⟩ := hx
      obtain ⟨z0, z1, z2, z3, z4, z5⟩ := hxa
      have i0 : (0 : Int) ≤ (i : Int) := by omega
      have i1 : (i : Int) < (n1 : Int) := by omega
      have f1 := hC.free hlt (i := 1) (by omega)
      have f2 := hC.free hlt (i := 2) (by omega)
      have m1 : gg ≠ w1.heap.size := hC.far gg rfl
      have hgX : X.heap.size ≤ gg := (hC.own.row.at_ _ rfl).2.1
      have m2 : gg ≠ w.heap.size + 1 := by omega
      have m3 : gg ≠ wr.heap.size := by omega
      have m4 : gg ≠ w.heap.size := by omega
      have HOK := Lib.hid hok
      have HGI := Lib.hid hgi
      clear hok hgi hlw
      by_cases hk1 : (la L i).kind = 1
      · have q1 : ((la L i).kind != 1) = false := by simpa using hk1
        have hp := isP_t hk1
        obtain ⟨b1, b2, b3, b4⟩ := HS.out.pass i (by rw [hLn.out]; exact hlt) hp
        have HP := Lib.hid hp
        clear hk1 hp
        have hokg : ∀ r, I64 r → LtOk { la L i with gate := (la L i).gate + 1, rank := r } := fun r hr => ⟨HOK.out.kind, ⟨by simp only []; omega, by simp only []; omega⟩, hr, HOK.out.id, HOK.out.sign⟩
        have HOG := Lib.hid hokg
        clear hokg
        have hCW := hC.alloc (.cells #[.int .i64 (la L i).kind, .int .i64 (la L i).gate, .int .i64 (la L i).rank, .int .i64 (la L i).id, .int .i64 (la L i).sign, .bool (la L i).over] 46)
        have hBl := Blk.new wr 46 #[.int .i64 (la L i).kind, .int .i64 (la L i).gate, .int .i64 (la L i).rank, .int .i64 (la L i).id, .int .i64 (la L i).sign, .bool (la L i).over]
        have hWr : Below wr.heap.size wr (wr.alloc (.cells #[.int .i64 (la L i).kind, .int .i64 (la L i).gate, .int .i64 (la L i).rank, .int .i64 (la L i).id, .int .i64 (la L i).sign, .bool (la L i).over] 46)) := (Below.refl _ _).alloc (Nat.le_refl _) _
        go_upto_region 8 with fail
        generalize wr.alloc (.cells #[.int .i64 (la L i).kind, .int .i64 (la L i).gate, .int .i64 (la L i).rank, .int .i64 (la L i).id, .int .i64 (la L i).sign, .bool (la L i).over] 46) = W at hCW hBl hWr ⊢
        have s0 : W.cell? ⟨w.heap.size + 1, 0, none⟩ = some (.int .i64 pg) := (hWr.cell (p := ⟨w.heap.size + 1, 0, none⟩) (by simp; omega)).trans p0
        have s1 : W.cell? ⟨w.heap.size + 1, 1, none⟩ = some (.int .i64 pl) := (hWr.cell (p := ⟨w.heap.size + 1, 1, none⟩) (by simp; omega)).trans p1
        have s2 := hCW.c1
        have s3 : W.cell? ⟨wr.heap.size, 1, none⟩ = some (.int .i64 (la L i).gate) := (hBl.cell 1).trans rfl
        have s4 : W.cell? ⟨wr.heap.size, 2, none⟩ = some (.int .i64 (la L i).rank) := (hBl.cell 2).trans rfl
        have s5 : W.cell? ⟨gg, o + i * 6 + 1, none⟩ = some (.int .i64 (la L i).gate) := (hWr.cell (p := ⟨gg, o + i * 6 + 1, none⟩) hgg).trans y1
        have s6 : W.cell? ⟨gg, o + i * 6 + 2, none⟩ = some (.int .i64 (la L i).rank) := (hWr.cell (p := ⟨gg, o + i * 6 + 2, none⟩) hgg).trans y2
        have s7 := hCW.free hlt (i := 1) (by omega)
        have s8 := hCW.free hlt (i := 2) (by omega)
        clear p0 p1 y0 y1 y2 y3 y4 y5 z0 z1 z2 z3 z4 z5 o0 o1 e0 e1 f1 f2 hC hWr hBl
        have hC1 := hCW.put (i := 1) (u := .int .i64 ((la L i).gate + 1)) (x' := { la L i with gate := (la L i).gate + 1 }) HGI.out (by omega) rfl (HOG.out _ HOK.out.rank) rfl
        by_cases hg1 : pg < (la L i).gate
        · have HU1 := Lib.hid (HU.out.set (by rw [hLn.out]; exact hlt) (in_up (g := pg) (l := pl) HP.out hg1).symm)
          have q2 : decide (pg < (la L i).gate) = true := by simpa using hg1
          have q3 : ((la L i).gate == pg) = false := by simp; omega
          clear HU hg1
          go_wp2_with fail
          go_roundw
          case rel => exact ⟨i + 1, _, by omega, by go_num, hC1, HU1⟩
          case measure => simp [intOf]; omega
        · have q2 : decide (pg < (la L i).gate) = false := by simpa using hg1
          by_cases hg2 : (la L i).gate = pg
          · have q3 : ((la L i).gate == pg) = true := by simpa using hg2
            by_cases hr : pl < (la L i).rank
            · have q4 : decide (pl < (la L i).rank) = true := by simpa using hr
              have HU1 := Lib.hid (HU.out.set (by rw [hLn.out]; exact hlt) (in_eq (g := pg) (l := pl) HP.out hg2 hr).symm)
              have hr64 : I64 ((la L i).rank - pl) := ⟨by omega, by omega⟩
              have hC2 := hC1.put (i := 2) (j := i) (x := { la L i with gate := (la L i).gate + 1 }) (u := .int .i64 ((la L i).rank - pl)) (x' := { la L i with gate := (la L i).gate + 1, rank := (la L i).rank - pl }) (by rw [List.getElem?_set_self (by rw [hCW.own.len]; exact hlt)]) (by omega) rfl (HOG.out _ hr64) rfl
              rw [List.set_set] at hC2
              have HG2 := Lib.hid hg2
              clear HU hg2 hg1 hr hr64 hC1
              go_wp2_with fail
              go_roundw
              case rel => exact ⟨i + 1, _, by omega, by go_num, hC2, HU1⟩
              case measure => simp [intOf]; omega
            · have q4 : decide (pl < (la L i).rank) = false := by simpa using hr
              have HU1 := Lib.hid (HU.out.skip (in_lo (g := pg) (l := pl) (x := la L i) hg1 (fun h => hr h.2)))
              have HG2 := Lib.hid hg2
              clear HU hg2 hg1 hr hC1
              go_wp2_with fail
              go_roundw
              case rel => exact ⟨i + 1, Lw, by omega, by go_num, hCW, HU1⟩
              case measure => simp [intOf]; omega
          · have q3 : ((la L i).gate == pg) = false := by simpa using hg2
            have HU1 := Lib.hid (HU.out.skip (in_lo (g := pg) (l := pl) (x := la L i) hg1 (fun h => hg2 h.1)))
            clear HU hg2 hg1 hC1
            go_wp2_with fail
            go_roundw
            case rel => exact ⟨i + 1, Lw, by omega, by go_num, hCW, HU1⟩
            case measure => simp [intOf]; omega
      · have q1 : ((la L i).kind != 1) = true := by simpa using hk1
        have HU1 := Lib.hid (HU.out.skip (in_np (g := pg) (l := pl) (x := la L i) (isP_f hk1)))
        clear hk1 HU
        go_wp2_with fail
        go_roundw
        case rel => exact ⟨i + 1, Lw, by omega, by go_num, hC.alloc _, HU1⟩
        case measure => simp [intOf]; omega
    · have hin : i = n1 := by omega
      have hU := HU.out
      rw [hin, ← hLn.out] at hU
      have hLf := hU.all
      have hown := hC.own
      rw [hLf] at hown
      have i1 : ¬ (i : Int) < (n1 : Int) := by omega
      have hR3 := hR0.below hC.old hX
      have r0 : wr.cell? ⟨w.heap.size + 1 + 1, 0, none⟩ = some (.int .i64 0) := (hR3.cell 0).trans rfl
      have r1 : wr.cell? ⟨w.heap.size + 1 + 1, 1, none⟩ = some (.slice none 0 0) := (hR3.cell 1).trans rfl
      have z0 := hR3.frozen 0
      have z1 := hR3.frozen 1
      have hS : Blk ((wr.setCell ⟨w.heap.size + 1 + 1, 0, none⟩ (.int .i64 (K + 1))).setCell ⟨w.heap.size + 1 + 1, 1, none⟩ (.slice A1 n1 c1)) (w.heap.size + 1 + 1) 24 #[.int .i64 (K + 1), .slice A1 n1 c1] := (hR3.set_ 0 _).set_ 1 _
      have gS := only_setCell (only_setCell (World.grownBy.refl wr (some (w.heap.size + 1 + 1))) (p := ⟨w.heap.size + 1 + 1, 0, none⟩) (.inl rfl) (.int .i64 (K + 1))) (p := ⟨w.heap.size + 1 + 1, 1, none⟩) (.inl rfl) (.slice A1 n1 c1)
      have hbS := ((below_chain hbx.below hC.old (by omega)).setCell (p := ⟨w.heap.size + 1 + 1, 0, none⟩) (by simp; omega) (.int .i64 (K + 1))).setCell (p := ⟨w.heap.size + 1 + 1, 1, none⟩) (by simp; omega) (.slice A1 n1 c1)
      have hLk : OwnL ((wr.setCell ⟨w.heap.size + 1 + 1, 0, none⟩ (.int .i64 (K + 1))).setCell ⟨w.heap.size + 1 + 1, 1, none⟩ (.slice A1 n1 c1)) w.heap.size A1 n1 c1 (insertL L pg pl) := by
        refine ⟨(hown.row.kept gS ?_).mono (by omega), hown.fits, hown.le⟩
        cases hb : blk A1 with
        | none => exact .inl rfl
        | some q => exact .inr (by have := (hown.row.lt q hb).1; simp; omega)
      clear hU hLf hin HU hR3 hown gS
      go_wp2_with fail
      (try simp only [Exit.inBlock, Exit.then])
      refine ret_cellB rfl rfl hS Tryd.underlying24 rfl (by kernel_rfl) rfl ?_
      exact ⟨A1, n1, c1, rfl, hLk, hbS⟩
end Go.Proofs.YtkjcmppaapbabaaDoor
