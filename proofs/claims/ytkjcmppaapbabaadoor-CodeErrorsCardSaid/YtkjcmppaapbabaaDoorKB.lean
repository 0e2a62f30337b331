/-
  Contracts: the document's Insert. Conditions: the letters read and are small; the place is one of the code's.
  Contract: the program's Insert. Conditions: the letters read; the place's numbers fit.
  Plain: a finger taken away or put in leaves a code without error. No walk.
-/
import Derived.Test.YtkjcmppaapbabaaDoorJK
import Derived.Test.YtkjcmppaapbabaaDoorKA
import Derived.Test.YtkjcmppaapbabaaDoorJA
namespace Go.Proofs.YtkjcmppaapbabaaDoor
section
open Go.RowKit
set_option maxRecDepth 100000 in
set_option maxHeartbeats 6400000 in
theorem cref_Insert (K pg pl : Int) (A : Option Addr) (n c : Nat) (L : List Lt) (w : World) (hA : Lets w A n L) (hs : Tame K L) (hl0 : 0 ≤ pl) (hl1 : pl ≤ 400) :
    Calls Tryd.prog 40 #[.agg #[.int .i64 K, .slice A n c], .agg #[.int .i64 pg, .int .i64 pl]] w (GivesC w (K + 1) (insertL L pg pl)) := by
  have hle := hA.le
  have hLn := Lib.hid hA.len
  have hK0 := hs.lo
  have hK4 := hs.hi
  have HS := Lib.hid hs
  have hn4 : n ≤ 400 := by have := hs.len; have := hA.len; omega
  have hbx : Boxed w (((w.alloc (.cells #[.int .i64 K, .slice A n c] 24)).alloc (.cells #[.int .i64 pg, .int .i64 pl] 50)).alloc (.cells #[.int .i64 0, .slice none 0 0] 24)) K A n c := ((Boxed.refl w K A n c).alloc _).alloc _
  have hP0 : Blk (((w.alloc (.cells #[.int .i64 K, .slice A n c] 24)).alloc (.cells #[.int .i64 pg, .int .i64 pl] 50)).alloc (.cells #[.int .i64 0, .slice none 0 0] 24)) (w.heap.size + 1) 50 #[.int .i64 pg, .int .i64 pl] := Blk.alloc (heap_alloc2_new w _ _) _
  have hR0 : Blk (((w.alloc (.cells #[.int .i64 K, .slice A n c] 24)).alloc (.cells #[.int .i64 pg, .int .i64 pl] 50)).alloc (.cells #[.int .i64 0, .slice none 0 0] 24)) (w.heap.size + 1 + 1) 24 #[.int .i64 0, .slice none 0 0] := by
    unfold Blk
    rw [show w.heap.size + 1 + 1 = (w.alloc (.cells #[.int .i64 K, .slice A n c] 24)).heap.size + 1 by simp]
    exact heap_alloc2_new _ _ _
  clear hs
  go_enter Tryd.func40, Tryd.ntmps40
  go_wp2_with fail
  generalize ((w.alloc (.cells #[.int .i64 K, .slice A n c] 24)).alloc (.cells #[.int .i64 pg, .int .i64 pl] 50)).alloc (.cells #[.int .i64 0, .slice none 0 0] 24) = X at hbx hP0 hR0 ⊢
  refine (cref_Copy K A n c L _ (hA.below hbx.below)).mono ?_
  rintro e w1 ⟨A1, n1, c1, rfl, hown, hb1⟩
  obtain rfl : n1 = n := by rw [← hown.len, hLn.out]
  have hX := hR0.lt
  have hsz1 := hb1.size
  have hC0 : Cpy X (w1.alloc (.cells #[.int .i64 (K + 1), .slice A1 n1 c1] 24)) w1.heap.size (K + 1) A1 n1 c1 L :=
    ⟨hown.alloc _, Blk.new _ _ _, fun q hq => Nat.ne_of_lt (hown.row.lt q hq).2, hb1.alloc hsz1 _⟩
  have hst : Hid (Upto (insLt pg pl) L L 0) := Lib.hid (Upto.zero _ _)
  clear hb1 hown
  go_wp2_with fail
  go_loopw [6] (fun v6 wr => ∃ (i : Nat) (Lw : List Lt), i ≤ n1 ∧ v6 = .int .i64 i ∧ Cpy X wr w1.heap.size (K + 1) A1 n1 c1 Lw ∧ Hid (Upto (insLt pg pl) L Lw i)) (fun v6 _ => n1 - (intOf v6).toNat)
  case atStart => exact ⟨0, L, Nat.zero_le _, rfl, hC0, hst⟩
  case round =>
    obtain ⟨i, Lw, hi, rfl, hC, HU⟩ := hrel
    clear hC0 hst
    have hbw := below_chain hbx.below hC.old (by omega)
    have o0 := hC.c0
    have o1 := hC.c1
    have e0 := (hbx.more hC.old).c0
    have e1 := (hbx.more hC.old).c1
    have p0 : wr.cell? ⟨w.heap.size + 1, 0, none⟩ = some (.int .i64 pg) := ((hP0.below hC.old (by omega)).cell 0).trans rfl
    have p1 : wr.cell? ⟨w.heap.size + 1, 1, none⟩ = some (.int .i64 pl) := ((hP0.below hC.old (by omega)).cell 1).trans rfl
    have hszr := hC.old.size
    have hblt := hC.bk.lt
    by_cases hlt : i < n1
    · obtain ⟨ga, oa, rfl, hga, hxa, hok⟩ := (hA.below hbw).at_ hlt
      obtain ⟨gg, o, rfl, hgg, hx, _⟩ := hC.own.lets.at_ hlt
      have hlw : la Lw i = la L i := by rw [HU.out.2 i (by rw [hLn.out]; exact hlt), if_neg (by omega)]
      have hgi : Lw[i]? = some (la L i) := by rw [la_get (by rw [hC.own.len]; exact hlt), hlw]
      rw [hlw] at hx
      obtain ⟨y0, y1, y2, y3, y4, y5⟩ := hx
      obtain ⟨z0, z1, z2, z3, z4, z5⟩ := hxa
      have i0 : (0 : Int) ≤ (i : Int) := by omega
      have i1 : (i : Int) < (n1 : Int) := by omega
      have f1 := hC.free hlt (i := 1) (by omega)
      have f2 := hC.free hlt (i := 2) (by omega)
      have m1 : gg ≠ w1.heap.size := hC.far gg rfl
      have hgX : X.heap.size ≤ gg := (hC.own.row.at_ _ rfl).2.1
      have m2 : gg ≠ w.heap.size + 1 := by omega
      have m3 : gg ≠ wr.heap.size := by omega
      have m4 : gg ≠ w.heap.size := by omega
      have HOK := Lib.hid hok
      have HGI := Lib.hid hgi
      clear hok hgi hlw
      by_cases hk1 : (la L i).kind = 1
      · have q1 : ((la L i).kind != 1) = false := by simpa using hk1
        have hp := isP_t hk1
        obtain ⟨b1, b2, b3, b4⟩ := HS.out.pass i (by rw [hLn.out]; exact hlt) hp
        have HP := Lib.hid hp
        clear hk1 hp
        have hokg : ∀ r, I64 r → LtOk { la L i with gate := (la L i).gate + 1, rank := r } := fun r hr => ⟨HOK.out.kind, ⟨by simp only []; omega, by simp only []; omega⟩, hr, HOK.out.id, HOK.out.sign⟩
        have HOG := Lib.hid hokg
        clear hokg
        have hCW := hC.alloc (.cells #[.int .i64 (la L i).kind, .int .i64 (la L i).gate, .int .i64 (la L i).rank, .int .i64 (la L i).id, .int .i64 (la L i).sign, .bool (la L i).over] 46)
        have hBl := Blk.new wr 46 #[.int .i64 (la L i).kind, .int .i64 (la L i).gate, .int .i64 (la L i).rank, .int .i64 (la L i).id, .int .i64 (la L i).sign, .bool (la L i).over]
        have hWr : Below wr.heap.size wr (wr.alloc (.cells #[.int .i64 (la L i).kind, .int .i64 (la L i).gate, .int .i64 (la L i).rank, .int .i64 (la L i).id, .int .i64 (la L i).sign, .bool (la L i).over] 46)) := (Below.refl _ _).alloc (Nat.le_refl _) _
        go_upto_region 8 with fail
        generalize wr.alloc (.cells #[.int .i64 (la L i).kind, .int .i64 (la L i).gate, .int .i64 (la L i).rank, .int .i64 (la L i).id, .int .i64 (la L i).sign, .bool (la L i).over] 46) = W at hCW hBl hWr ⊢
        have s0 : W.cell? ⟨w.heap.size + 1, 0, none⟩ = some (.int .i64 pg) := (hWr.cell (p := ⟨w.heap.size + 1, 0, none⟩) (by simp; omega)).trans p0
        have s1 : W.cell? ⟨w.heap.size + 1, 1, none⟩ = some (.int .i64 pl) := (hWr.cell (p := ⟨w.heap.size + 1, 1, none⟩) (by simp; omega)).trans p1
        have s2 := hCW.c1
        have s3 : W.cell? ⟨wr.heap.size, 1, none⟩ = some (.int .i64 (la L i).gate) := (hBl.cell 1).trans rfl
        have s4 : W.cell? ⟨wr.heap.size, 2, none⟩ = some (.int .i64 (la L i).rank) := (hBl.cell 2).trans rfl
        have s5 : W.cell? ⟨gg, o + i * 6 + 1, none⟩ = some (.int .i64 (la L i).gate) := (hWr.cell (p := ⟨gg, o + i * 6 + 1, none⟩) hgg).trans y1
        have s6 : W.cell? ⟨gg, o + i * 6 + 2, none⟩ = some (.int .i64 (la L i).rank) := (hWr.cell (p := ⟨gg, o + i * 6 + 2, none⟩) hgg).trans y2
        have s7 := hCW.free hlt (i := 1) (by omega)
        have s8 := hCW.free hlt (i := 2) (by omega)
        clear p0 p1 y0 y1 y2 y3 y4 y5 z0 z1 z2 z3 z4 z5 o0 o1 e0 e1 f1 f2 hC hWr hBl
        have hC1 := hCW.put (i := 1) (u := .int .i64 ((la L i).gate + 1)) (x' := { la L i with gate := (la L i).gate + 1 }) HGI.out (by omega) rfl (HOG.out _ HOK.out.rank) rfl
        by_cases hg1 : pg < (la L i).gate
        · have HU1 := Lib.hid (HU.out.set (by rw [hLn.out]; exact hlt) (in_up (g := pg) (l := pl) HP.out hg1).symm)
          have q2 : decide (pg < (la L i).gate) = true := by simpa using hg1
          have q3 : ((la L i).gate == pg) = false := by simp; omega
          clear HU hg1
          go_wp2_with fail
          go_roundw
          case rel => exact ⟨i + 1, _, by omega, by go_num, hC1, HU1⟩
          case measure => simp [intOf]; omega
        · have q2 : decide (pg < (la L i).gate) = false := by simpa using hg1
          by_cases hg2 : (la L i).gate = pg
          · have q3 : ((la L i).gate == pg) = true := by simpa using hg2
            by_cases hr : pl < (la L i).rank
            · have q4 : decide (pl < (la L i).rank) = true := by simpa using hr
              have HU1 := Lib.hid (HU.out.set (by rw [hLn.out]; exact hlt) (in_eq (g := pg) (l := pl) HP.out hg2 hr).symm)
              have hr64 : I64 ((la L i).rank - pl) := ⟨by omega, by omega⟩
              have hC2 := hC1.put (i := 2) (j := i) (x := { la L i with gate := (la L i).gate + 1 }) (u := .int .i64 ((la L i).rank - pl)) (x' := { la L i with gate := (la L i).gate + 1, rank := (la L i).rank - pl }) (by rw [List.getElem?_set_self (by rw [hCW.own.len]; exact hlt)]) (by omega) rfl (HOG.out _ hr64) rfl
              rw [List.set_set] at hC2
              have HG2 := Lib.hid hg2
              clear HU hg2 hg1 hr hr64 hC1
              go_wp2_with fail
              go_roundw
              case rel => exact ⟨i + 1, _, by omega, by go_num, hC2, HU1⟩
              case measure => simp [intOf]; omega
            · have q4 : decide (pl < (la L i).rank) = false := by simpa using hr
              have HU1 := Lib.hid (HU.out.skip (in_lo (g := pg) (l := pl) (x := la L i) hg1 (fun h => hr h.2)))
              have HG2 := Lib.hid hg2
              clear HU hg2 hg1 hr hC1
              go_wp2_with fail
              go_roundw
              case rel => exact ⟨i + 1, Lw, by omega, by go_num, hCW, HU1⟩
              case measure => simp [intOf]; omega
          · have q3 : ((la L i).gate == pg) = false := by simpa using hg2
            have HU1 := Lib.hid (HU.out.skip (in_lo (g := pg) (l := pl) (x := la L i) hg1 (fun h => hg2 h.1)))
            clear HU hg2 hg1 hC1
            go_wp2_with fail
            go_roundw
            case rel => exact ⟨i + 1, Lw, by omega, by go_num, hCW, HU1⟩
            case measure => simp [intOf]; omega
      · have q1 : ((la L i).kind != 1) = true := by simpa using hk1
        have HU1 := Lib.hid (HU.out.skip (in_np (g := pg) (l := pl) (x := la L i) (isP_f hk1)))
        clear hk1 HU
        go_wp2_with fail
        go_roundw
        case rel => exact ⟨i + 1, Lw, by omega, by go_num, hC.alloc _, HU1⟩
        case measure => simp [intOf]; omega
    · have hin : i = n1 := by omega
      have hU := HU.out
      rw [hin, ← hLn.out] at hU
      have hLf := hU.all
      have hown := hC.own
      rw [hLf] at hown
      have i1 : ¬ (i : Int) < (n1 : Int) := by omega
      have hR3 := hR0.below hC.old hX
      have r0 : wr.cell? ⟨w.heap.size + 1 + 1, 0, none⟩ = some (.int .i64 0) := (hR3.cell 0).trans rfl
      have r1 : wr.cell? ⟨w.heap.size + 1 + 1, 1, none⟩ = some (.slice none 0 0) := (hR3.cell 1).trans rfl
      have z0 := hR3.frozen 0
      have z1 := hR3.frozen 1
      have hS : Blk ((wr.setCell ⟨w.heap.size + 1 + 1, 0, none⟩ (.int .i64 (K + 1))).setCell ⟨w.heap.size + 1 + 1, 1, none⟩ (.slice A1 n1 c1)) (w.heap.size + 1 + 1) 24 #[.int .i64 (K + 1), .slice A1 n1 c1] := (hR3.set_ 0 _).set_ 1 _
      have gS := only_setCell (only_setCell (World.grownBy.refl wr (some (w.heap.size + 1 + 1))) (p := ⟨w.heap.size + 1 + 1, 0, none⟩) (.inl rfl) (.int .i64 (K + 1))) (p := ⟨w.heap.size + 1 + 1, 1, none⟩) (.inl rfl) (.slice A1 n1 c1)
      have hbS := ((below_chain hbx.below hC.old (by omega)).setCell (p := ⟨w.heap.size + 1 + 1, 0, none⟩) (by simp; omega) (.int .i64 (K + 1))).setCell (p := ⟨w.heap.size + 1 + 1, 1, none⟩) (by simp; omega) (.slice A1 n1 c1)
      have hLk : OwnL ((wr.setCell ⟨w.heap.size + 1 + 1, 0, none⟩ (.int .i64 (K + 1))).setCell ⟨w.heap.size + 1 + 1, 1, none⟩ (.slice A1 n1 c1)) w.heap.size A1 n1 c1 (insertL L pg pl) := by
        refine ⟨(hown.row.kept gS ?_).mono (by omega), hown.fits, hown.le⟩
        cases hb : blk A1 with
        | none => exact .inl rfl
        | some q => exact .inr (by have := (hown.row.lt q hb).1; simp; omega)
      clear hU hLf hin HU hR3 hown gS
      go_wp2_with fail
      (try simp only [Exit.inBlock, Exit.then])
      refine ret_cellB rfl rfl hS Tryd.underlying24 rfl (by kernel_rfl) rfl ?_
      exact ⟨A1, n1, c1, rfl, hLk, hbS⟩
end

section
open Go.RowKit
def insE (K : Int) (L : List Lt) (pg pl : Int) : Int := if checkE K L ≠ 0 then checkE K L else if placeB K L pg pl = true ∧ K < 40 then 0 else 2
def insK (K : Int) (L : List Lt) (pg pl : Int) : Int := if insE K L pg pl = 0 then K + 1 else 0
def insM (K : Int) (L : List Lt) (pg pl : Int) : List Lt := if insE K L pg pl = 0 then insertL L pg pl else []
theorem insE_bad {K : Int} {L : List Lt} {pg pl : Int} (h : checkE K L = 0) (h2 : ¬(placeB K L pg pl = true ∧ K < 40)) : insE K L pg pl = 2 := by unfold insE; rw [if_neg (by rw [h]; simp), if_neg h2]
theorem insE_ok {K : Int} {L : List Lt} {pg pl : Int} (h : checkE K L = 0) (h2 : placeB K L pg pl = true) (h3 : K < 40) : insE K L pg pl = 0 := by unfold insE; rw [if_neg (by rw [h]; simp), if_pos ⟨h2, h3⟩]
theorem place_iff {K : Int} {L : List Lt} {pg pl : Int} : placeB K L pg pl = true ↔ 0 ≤ pg ∧ pg ≤ K ∧ 0 ≤ pl ∧ pl ≤ (gN L pg L.length : Int) := by unfold placeB; simp [and_assoc]
/-- A return of nothing but an error. -/
theorem ins_none {w : World} {K : Int} {L : List Lt} {pg pl E : Int} {w' : World} (hE : insE K L pg pl = E) (h0 : E ≠ 0) (hb : Below w.heap.size w w') {e : Ending} (he : e = .returned (.tuple #[.agg #[.int .i64 0, .slice none 0 0], .int .i64 E])) :
    GivesCE w (insK K L pg pl) (insM K L pg pl) (insE K L pg pl) e w' := by
  refine ⟨none, 0, 0, ?_, ?_, hb⟩
  · rw [he]; unfold insK; rw [hE, if_neg h0]
  · unfold insM; rw [hE, if_neg h0]; exact OwnL.nil _ _
set_option maxRecDepth 100000 in
set_option maxHeartbeats 6400000 in
theorem code_Insert (K pg pl : Int) (hpg : I64 pg) (hpl : I64 pl) (A : Option Addr) (n c : Nat) (L : List Lt) (w : World) (hA : Lets w A n L) :
    Calls Tryd.prog 38 #[.agg #[.int .i64 K, .slice A n c], .agg #[.int .i64 pg, .int .i64 pl]] w (GivesCE w (insK K L pg pl) (insM K L pg pl) (insE K L pg pl)) := by
  have hLn := Lib.hid hA.len
  have hbc0 := build_code0
  have hbc2 := build_code2
  have hbx : Boxed w (((w.alloc (.cells #[.int .i64 K, .slice A n c] 24)).alloc (.cells #[.int .i64 pg, .int .i64 pl] 50)).alloc (.cells #[.int .i64 0, .slice none 0 0] 24)) K A n c := ((Boxed.refl w K A n c).alloc _).alloc _
  have hP0 : Blk (((w.alloc (.cells #[.int .i64 K, .slice A n c] 24)).alloc (.cells #[.int .i64 pg, .int .i64 pl] 50)).alloc (.cells #[.int .i64 0, .slice none 0 0] 24)) (w.heap.size + 1) 50 #[.int .i64 pg, .int .i64 pl] := Blk.alloc (heap_alloc2_new w _ _) _
  have hR0 : Blk (((w.alloc (.cells #[.int .i64 K, .slice A n c] 24)).alloc (.cells #[.int .i64 pg, .int .i64 pl] 50)).alloc (.cells #[.int .i64 0, .slice none 0 0] 24)) (w.heap.size + 1 + 1) 24 #[.int .i64 0, .slice none 0 0] := by
    unfold Blk
    rw [show w.heap.size + 1 + 1 = (w.alloc (.cells #[.int .i64 K, .slice A n c] 24)).heap.size + 1 by simp]
    exact heap_alloc2_new _ _ _
  obtain ⟨E, hE⟩ : ∃ E, checkE K L = E := ⟨_, rfl⟩
  have HE := Lib.hid hE
  clear hE
  go_enter Tryd.func38, Tryd.ntmps38
  go_wp2_with fail
  generalize ((w.alloc (.cells #[.int .i64 K, .slice A n c] 24)).alloc (.cells #[.int .i64 pg, .int .i64 pl] 50)).alloc (.cells #[.int .i64 0, .slice none 0 0] 24) = X at hbx hP0 hR0 ⊢
  refine (code_read K A n c L _ (hA.below hbx.below)).mono ?_
  rintro e w1 ⟨v, rfl, hb1, hok⟩
  have hX := hR0.lt
  have hR1 := hR0.below hb1 hX
  have hP1 := hP0.below hb1 hP0.lt
  have hb2 := hbx.more hb1
  have x0 := hb2.c0
  have r0 : w1.cell? ⟨w.heap.size + 1 + 1, 0, none⟩ = some (.int .i64 0) := (hR1.cell 0).trans rfl
  have r1 : w1.cell? ⟨w.heap.size + 1 + 1, 1, none⟩ = some (.slice none 0 0) := (hR1.cell 1).trans rfl
  have z0 := hR1.frozen 0
  have z1 := hR1.frozen 1
  have p0 : w1.cell? ⟨w.heap.size + 1, 0, none⟩ = some (.int .i64 pg) := (hP1.cell 0).trans rfl
  have p1 : w1.cell? ⟨w.heap.size + 1, 1, none⟩ = some (.int .i64 pl) := (hP1.cell 1).trans rfl
  have hS : Blk ((w1.setCell ⟨w.heap.size + 1 + 1, 0, none⟩ (.int .i64 0)).setCell ⟨w.heap.size + 1 + 1, 1, none⟩ (.slice none 0 0)) (w.heap.size + 1 + 1) 24 #[.int .i64 0, .slice none 0 0] := (hR1.set_ 0 _).set_ 1 _
  have hbS := (hb2.below.setCell (p := ⟨w.heap.size + 1 + 1, 0, none⟩) (by simp; omega) (.int .i64 0)).setCell (p := ⟨w.heap.size + 1 + 1, 1, none⟩) (by simp; omega) (.slice none 0 0)
  rw [HE.out]
  by_cases hz : E = 0
  · subst hz
    obtain ⟨p, rfl, k, rfl, hk40, hn400, hp, hcase⟩ := hok HE.out
    by_cases hfr : pg < 0 ∨ (k : Int) < pg ∨ pl < 0 ∨ 40 ≤ (k : Int)
    · have hf := Lib.hid (insE_bad (pg := pg) (pl := pl) HE.out (by rw [place_iff]; omega))
      have hall : pg < 0 ∨ (decide (pg < 0) = false ∧ (k : Int) < pg) ∨ (decide (pg < 0) = false ∧ decide ((k : Int) < pg) = false ∧ pl < 0) ∨ (decide (pg < 0) = false ∧ decide ((k : Int) < pg) = false ∧ decide (pl < 0) = false ∧ 40 ≤ (k : Int)) := by
        simp only [decide_eq_false_iff_not]; omega
      clear hfr hok hR0 hR1 hb1 hbx hcase hP0 hP1
      rcases hall with h1 | ⟨h1, h2⟩ | ⟨h1, h2, h3⟩ | ⟨h1, h2, h3, h4⟩
      all_goals
        go_wp2_with fail
        (try simp only [Exit.inBlock, Exit.then])
        refine ret_cellT rfl rfl rfl hS Tryd.underlying24 rfl (by kernel_rfl) rfl ?_
        exact ins_none hf.out (by omega) hbS rfl
    · have h1 : decide (pg < 0) = false := by simp; omega
      have h2 : decide ((k : Int) < pg) = false := by simp; omega
      have h3 : decide (pl < 0) = false := by simp; omega
      have h4 : decide (40 ≤ (k : Int)) = false := by simp; omega
      obtain ⟨g, rfl⟩ : ∃ g : Nat, pg = (g : Int) := ⟨pg.toNat, by omega⟩
      obtain ⟨l, rfl⟩ : ∃ l : Nat, pl = (l : Int) := ⟨pl.toNat, by omega⟩
      have hgk : g ≤ k := by omega
      have hk39 : k < 40 := by omega
      clear hfr
      go_upto_region 6 with fail
      go_cut [74] (fun v74 wx => v74 = .bool (decide (gN L (g : Int) n < l)) ∧ Drawn w1 wx)
      case first =>
        rcases hcase with ⟨rfl, hd⟩ | ⟨hn0, base, b, g2, g3, g4, g6, s, P, C, ids, hbase, hF⟩
        · have d1 := hd.c1
          have hL0 : gN L (g : Int) 0 = 0 := rfl
          have HL0 := Lib.hid hL0
          clear hL0
          by_cases hl : 0 < l
          · have q1 : decide ((0 : Int) < (l : Int)) = true := by simp; omega
            have q2 : decide (0 < l) = true := by simpa using hl
            go_wp2_with fail
            go_quiet (fail)
            go_wp2_with fail
            go_meet
            case rel => exact ⟨by rw [HL0.out, q2], drawn1 _ _⟩
          · have q1 : decide ((0 : Int) < (l : Int)) = false := by simp; omega
            have q2 : decide (0 < l) = false := by simpa using hl
            go_wp2_with fail
            go_quiet (fail)
            go_wp2_with fail
            go_meet
            case rel => exact ⟨by rw [HL0.out, q2], drawn1 _ _⟩
        · have d1 := hF.ranks.dia.c1
          have d6 := hF.ranks.dia.c6
          have q0 : ((n : Int) == 0) = false := by simp; omega
          have q00 : decide ((0 : Int) < (n : Int)) = true := by simp; omega
          have hcc := hF.ranks.count.cell (hF.ranks.counts g (by omega))
          obtain ⟨G, hG⟩ : ∃ G, gN L (g : Int) n = G := ⟨_, rfl⟩
          rw [hG] at hcc
          have HG := Lib.hid hG
          have m5 : (0 : Int) ≤ (g : Int) := by omega
          have m6 : (g : Int) < (k : Int) + 1 := by omega
          have m7 : g < k + 1 := by omega
          clear hG
          by_cases hl : G < l
          · have q1 : decide ((G : Int) < (l : Int)) = true := by simp; omega
            have q2 : decide (G < l) = true := by simpa using hl
            go_wp2_with fail
            go_quiet (fail)
            go_wp2_with fail
            go_meet
            case rel => exact ⟨by rw [HG.out, q2], drawn1 _ _⟩
          · have q1 : decide ((G : Int) < (l : Int)) = false := by simp; omega
            have q2 : decide (G < l) = false := by simpa using hl
            go_wp2_with fail
            go_quiet (fail)
            go_wp2_with fail
            go_meet
            case rel => exact ⟨by rw [HG.out, q2], drawn1 _ _⟩
      case rest =>
        obtain ⟨rfl, m, rfl⟩ := hcut
        cases hgl : decide (gN L (g : Int) n < l) with
        | true =>
          have hf := Lib.hid (insE_bad (pg := (g : Int)) (pl := (l : Int)) HE.out (by rw [place_iff, hLn.out]; simp at hgl; omega))
          clear hok hR0 hR1 hb1 hbx hcase hP0 hP1
          go_wp2_with fail
          (try simp only [Exit.inBlock, Exit.then])
          refine ret_cellT rfl rfl rfl (Blk.drewN hS m) Tryd.underlying24 rfl (by kernel_rfl) rfl ?_
          exact ins_none hf.out (by omega) (below_drewN hbS m) rfl
        | false =>
          have hgl' : l ≤ gN L (g : Int) n := by simpa using hgl
          have hgn := gN_lt L (g : Int) n
          have hf := Lib.hid (insE_ok (pg := (g : Int)) (pl := (l : Int)) HE.out (by rw [place_iff, hLn.out]; omega) (by omega))
          have hl4 : l ≤ 400 := by omega
          have HSM := Lib.hid (tame_of_check HE.out)
          have hplt : p < w1.heap.size := by
            rcases hcase with ⟨_, hd⟩ | ⟨_, base, b, g2, g3, g4, g6, s, P, C, ids, _, hF⟩
            · exact hd.lt
            · exact hF.ranks.dia.lt
          have d1 : w1.cell? ⟨p, 1, none⟩ = some (.slice A n c) := by
            rcases hcase with ⟨_, hd⟩ | ⟨_, base, b, g2, g3, g4, g6, s, P, C, ids, _, hF⟩
            · exact hd.c1
            · exact hF.ranks.dia.c1
          have hbV : Below w1.heap.size w1 (w1.drewN m) := below_drewN (Below.refl _ _) m
          have hb2' := hb2.more hbV
          generalize w1.drewN m = V at hbV hb2' ⊢
          have hRV := hR1.below hbV hR1.lt
          have hPV := hP1.below hbV hP1.lt
          have dV : V.cell? ⟨p, 1, none⟩ = some (.slice A n c) := (hbV.cell (p := ⟨p, 1, none⟩) hplt).trans d1
          have hAV := hA.below hb2'.below
          have hszV := hb2'.size
          have hVs := hRV.lt
          clear hok hR0 hR1 hb1 hbx hcase hP0 hP1 r0 r1 z0 z1 p0 p1 d1 x0 hS hbS hgl hgl' hgn hb2 hbV
          go_wp2_with fail
          refine (clone_letters A n c L _ hAV).mono ?_
          rintro e w2 ⟨A2, c2, rfl, hL2, hb3⟩
          have hst : Hid (Upto (insLt g l) L L 0) := Lib.hid (Upto.zero _ _)
          clear dV
          go_wp2_with fail
          go_loopw [9, 10, 84] (fun _ _ v84 wr => ∃ (i : Nat) (Lw : List Lt), i ≤ n ∧ v84 = .int .i64 i ∧ OwnL wr V.heap.size A2 n c2 Lw ∧ Below V.heap.size V wr ∧ Hid (Upto (insLt g l) L Lw i)) (fun _ _ v84 _ => n - (intOf v84).toNat)
          case atStart => exact ⟨0, L, Nat.zero_le _, rfl, hL2, hb3, hst⟩
          case round =>
            obtain ⟨i, Lw, hi, rfl, hLw, hbr, HU⟩ := hrel
            clear hL2 hb3 hst
            by_cases hlt : i < n
            · obtain ⟨gg, o, rfl, hgg, hx, hok⟩ := hLw.lets.at_ hlt
              have hlw : la Lw i = la L i := by rw [HU.out.2 i (by rw [hLn.out]; exact hlt), if_neg (by omega)]
              have hgi : Lw[i]? = some (la L i) := by rw [la_get (by rw [hLw.len]; exact hlt), hlw]
              rw [hlw] at hx hok
              obtain ⟨y0, y1, y2, y3, y4, y5⟩ := hx
              have i0 : (0 : Int) ≤ (i : Int) := by omega
              have i1 : (i : Int) < (n : Int) := by omega
              have hcap := hLw.row.cap
              have hgb := (hLw.row.at_ _ rfl).2.1
              simp only [] at hgb
              have hszr := hbr.size
              have HOK := Lib.hid hok
              have HGI := Lib.hid hgi
              have hPr := hPV.below hbr hPV.lt
              have m2 : gg ≠ w.heap.size + 1 := by omega
              have m3 : gg ≠ wr.heap.size := by omega
              have hLW := hLw.alloc (.cells #[.int .i64 (la L i).kind, .int .i64 (la L i).gate, .int .i64 (la L i).rank, .int .i64 (la L i).id, .int .i64 (la L i).sign, .bool (la L i).over] 46)
              have hBl := Blk.new wr 46 #[.int .i64 (la L i).kind, .int .i64 (la L i).gate, .int .i64 (la L i).rank, .int .i64 (la L i).id, .int .i64 (la L i).sign, .bool (la L i).over]
              have hWr : Below wr.heap.size wr (wr.alloc (.cells #[.int .i64 (la L i).kind, .int .i64 (la L i).gate, .int .i64 (la L i).rank, .int .i64 (la L i).id, .int .i64 (la L i).sign, .bool (la L i).over] 46)) := (Below.refl _ _).alloc (Nat.le_refl _) _
              clear hok hgi hlw
              go_upto_region 12 with fail
              generalize wr.alloc (.cells #[.int .i64 (la L i).kind, .int .i64 (la L i).gate, .int .i64 (la L i).rank, .int .i64 (la L i).id, .int .i64 (la L i).sign, .bool (la L i).over] 46) = W at hLW hBl hWr ⊢
              have hbW := below_chain hbr hWr hbr.size
              have hPW := hPr.below hWr hPr.lt
              have s0 : W.cell? ⟨w.heap.size + 1, 0, none⟩ = some (.int .i64 (g : Int)) := (hPW.cell 0).trans rfl
              have s1 : W.cell? ⟨w.heap.size + 1, 1, none⟩ = some (.int .i64 (l : Int)) := (hPW.cell 1).trans rfl
              have s2 : W.cell? ⟨wr.heap.size, 0, none⟩ = some (.int .i64 (la L i).kind) := (hBl.cell 0).trans rfl
              have s3 : W.cell? ⟨wr.heap.size, 1, none⟩ = some (.int .i64 (la L i).gate) := (hBl.cell 1).trans rfl
              have s4 : W.cell? ⟨wr.heap.size, 2, none⟩ = some (.int .i64 (la L i).rank) := (hBl.cell 2).trans rfl
              have s5 : W.cell? ⟨gg, o + i * 6 + 1, none⟩ = some (.int .i64 (la L i).gate) := (hWr.cell (p := ⟨gg, o + i * 6 + 1, none⟩) hgg).trans y1
              have s6 : W.cell? ⟨gg, o + i * 6 + 2, none⟩ = some (.int .i64 (la L i).rank) := (hWr.cell (p := ⟨gg, o + i * 6 + 2, none⟩) hgg).trans y2
              have s7 : W.frozen? ⟨gg, o + i * 6 + 1, none⟩ = false := hLW.row.free (j := i * 6 + 1) (by omega)
              have s8 : W.frozen? ⟨gg, o + i * 6 + 2, none⟩ = false := hLW.row.free (j := i * 6 + 2) (by omega)
              clear y0 y1 y2 y3 y4 y5 hLw hbr hPr hPW hBl hWr
              by_cases hk1 : (la L i).kind = 1
              · have q1 : ((la L i).kind != 1) = false := by simpa using hk1
                have hp' := isP_t hk1
                obtain ⟨b1, b2, b3, b4⟩ := HSM.out.pass i (by rw [hLn.out]; exact hlt) hp'
                have HP := Lib.hid hp'
                clear hk1 hp'
                have hokg : ∀ r, I64 r → LtOk { la L i with gate := (la L i).gate + 1, rank := r } := fun r hr => ⟨HOK.out.kind, ⟨by simp only []; omega, by simp only []; omega⟩, hr, HOK.out.id, HOK.out.sign⟩
                have hL1 := hLW.put (i := 1) (u := .int .i64 ((la L i).gate + 1)) (x' := { la L i with gate := (la L i).gate + 1 }) HGI.out (by omega) rfl (hokg _ HOK.out.rank) rfl
                have hb4 := hbW.setCell (p := ⟨gg, o + (i * 6 + 1), none⟩) hgb (.int .i64 ((la L i).gate + 1))
                by_cases hg0 : (la L i).gate < (g : Int)
                · have q2 : decide ((la L i).gate < (g : Int)) = true := by simpa using hg0
                  have HU1 := Lib.hid (HU.out.skip (in_lo (g := (g : Int)) (l := (l : Int)) (x := la L i) (by omega) (by omega)))
                  clear HU hg0 hL1 hb4 hokg
                  go_wp2_with fail
                  go_roundw
                  case rel => exact ⟨i + 1, Lw, by omega, by go_num, hLW, hbW, HU1⟩
                  case measure => simp [intOf]; omega
                · have q2 : decide ((la L i).gate < (g : Int)) = false := by simpa using hg0
                  by_cases hg1 : (g : Int) < (la L i).gate
                  · have q3 : decide ((g : Int) < (la L i).gate) = true := by simpa using hg1
                    have HU1 := Lib.hid (HU.out.set (by rw [hLn.out]; exact hlt) (in_up (g := (g : Int)) (l := (l : Int)) HP.out hg1).symm)
                    clear HU hg0 hg1 hokg
                    go_wp2_with fail
                    go_roundw
                    case rel => exact ⟨i + 1, _, by omega, by go_num, hL1, hb4, HU1⟩
                    case measure => simp [intOf]; omega
                  · have q3 : decide ((g : Int) < (la L i).gate) = false := by simpa using hg1
                    by_cases hr : (l : Int) < (la L i).rank
                    · have q4 : decide ((l : Int) < (la L i).rank) = true := by simpa using hr
                      have HU1 := Lib.hid (HU.out.set (by rw [hLn.out]; exact hlt) (in_eq (g := (g : Int)) (l := (l : Int)) HP.out (by omega) hr).symm)
                      have hr64 : I64 ((la L i).rank - (l : Int)) := ⟨by omega, by omega⟩
                      have hL2 := hL1.put (i := 2) (j := i) (x := { la L i with gate := (la L i).gate + 1 }) (u := .int .i64 ((la L i).rank - (l : Int))) (x' := { la L i with gate := (la L i).gate + 1, rank := (la L i).rank - (l : Int) }) (by rw [List.getElem?_set_self (by rw [hLW.len]; exact hlt)]) (by omega) rfl (hokg _ hr64) rfl
                      rw [List.set_set] at hL2
                      have hb5 := hb4.setCell (p := ⟨gg, o + (i * 6 + 2), none⟩) hgb (.int .i64 ((la L i).rank - (l : Int)))
                      have HG := Lib.hid hokg
                      clear HU hg0 hg1 hr hr64 hL1 hb4 hokg
                      go_wp2_with fail
                      go_region
                      go_wp2_with fail
                      go_roundw
                      case rel => exact ⟨i + 1, _, by omega, by go_num, by first | exact hL2 | exact hL2.next (Below.refl _ _).drew, by first | exact hb5 | exact hb5.drew, HU1⟩
                      case measure => simp [intOf]; omega
                    · have q4 : decide ((l : Int) < (la L i).rank) = false := by simpa using hr
                      have HU1 := Lib.hid (HU.out.skip (in_lo (g := (g : Int)) (l := (l : Int)) (x := la L i) (by omega) (by omega)))
                      clear HU hg0 hg1 hr hL1 hb4 hokg
                      go_wp2_with fail
                      go_roundw
                      case rel => exact ⟨i + 1, Lw, by omega, by go_num, hLW, hbW, HU1⟩
                      case measure => simp [intOf]; omega
              · have q1 : ((la L i).kind != 1) = true := by simpa using hk1
                have HU1 := Lib.hid (HU.out.skip (in_np (g := (g : Int)) (l := (l : Int)) (x := la L i) (isP_f hk1)))
                clear hk1 HU
                go_wp2_with fail
                go_roundw
                case rel => exact ⟨i + 1, Lw, by omega, by go_num, hLW, hbW, HU1⟩
                case measure => simp [intOf]; omega
            · have hin : i = n := by omega
              have hU := HU.out
              rw [hin, ← hLn.out] at hU
              have hLf := hU.all
              rw [hLf] at hLw
              have i1 : ¬ (i : Int) < (n : Int) := by omega
              have hszr := hbr.size
              have hR3 := hRV.below hbr hVs
              have r0 : wr.cell? ⟨w.heap.size + 1 + 1, 0, none⟩ = some (.int .i64 0) := (hR3.cell 0).trans rfl
              have r1 : wr.cell? ⟨w.heap.size + 1 + 1, 1, none⟩ = some (.slice none 0 0) := (hR3.cell 1).trans rfl
              have z0 := hR3.frozen 0
              have z1 := hR3.frozen 1
              have e0 := (hb2'.more hbr).c0
              have hS : Blk ((wr.setCell ⟨w.heap.size + 1 + 1, 0, none⟩ (.int .i64 ((k : Int) + 1))).setCell ⟨w.heap.size + 1 + 1, 1, none⟩ (.slice A2 n c2)) (w.heap.size + 1 + 1) 24 #[.int .i64 ((k : Int) + 1), .slice A2 n c2] := (hR3.set_ 0 _).set_ 1 _
              have hbS := ((below_chain hb2'.below hbr (by omega)).setCell (p := ⟨w.heap.size + 1 + 1, 0, none⟩) (by simp; omega) (.int .i64 ((k : Int) + 1))).setCell (p := ⟨w.heap.size + 1 + 1, 1, none⟩) (by simp; omega) (.slice A2 n c2)
              have g1 := only_setCell (only_setCell (World.grownBy.refl wr (some (w.heap.size + 1 + 1))) (p := ⟨w.heap.size + 1 + 1, 0, none⟩) (.inl rfl) (.int .i64 ((k : Int) + 1))) (p := ⟨w.heap.size + 1 + 1, 1, none⟩) (.inl rfl) (.slice A2 n c2)
              have hLk : OwnL ((wr.setCell ⟨w.heap.size + 1 + 1, 0, none⟩ (.int .i64 ((k : Int) + 1))).setCell ⟨w.heap.size + 1 + 1, 1, none⟩ (.slice A2 n c2)) w.heap.size A2 n c2 (L.map (insLt g l)) := by
                refine ⟨(hLw.row.kept g1 ?_).mono (by omega), hLw.fits, hLw.le⟩
                cases hb : blk A2 with
                | none => exact .inl rfl
                | some q => exact .inr (by have := (hLw.row.lt q hb).1; simp; omega)
              clear hU hLf hin HU hR3 hLw g1 hbr
              go_wp2_with fail
              (try simp only [Exit.inBlock, Exit.then])
              refine ret_cellT rfl rfl rfl hS Tryd.underlying24 rfl (by kernel_rfl) rfl ?_
              exact ⟨A2, n, c2, by unfold insK; rw [hf.out, if_pos rfl]; rfl, by unfold insM; rw [hf.out, if_pos rfl]; exact hLk, hbS⟩
  · have q : (E == 0) = false := by simpa using hz
    have hf := Lib.hid (show insE K L pg pl = E by unfold insE; rw [HE.out, if_pos hz])
    have HZ := Lib.hid hz
    clear hz hok hR0 hR1 hb1 hbx hP0 hP1
    go_wp2_with fail
    (try simp only [Exit.inBlock, Exit.then])
    refine ret_cellT rfl rfl rfl hS Tryd.underlying24 rfl (by kernel_rfl) rfl ?_
    exact ins_none hf.out HZ.out hbS rfl
end

section
theorem check_img2 {K K' : Int} {L M : List Lt} (h : checkE K L = 0) (h0 : 0 ≤ K') (h1 : K' ≤ 40) (hl : M.length = L.length) (hc : M.countP isC = L.countP isC) (hv : 0 < L.length → validB2 K L = true → validB2 K' M = true) : checkE K' M = 0 := by
  have hp := check_parts h
  have hcn : cN L L.length ≤ 200 := by
    rcases Nat.lt_or_ge 200 (cN L L.length) with q | q
    · unfold checkE at h; rw [if_pos (.inr q)] at h; cases h
    · exact q
  unfold checkE
  rw [cN_countP, hc, ← cN_countP, hl, if_neg (by omega), if_neg (by omega)]
  by_cases h0 : L.length = 0
  · rw [if_pos h0]
  · rw [if_neg h0, hv (by omega) (hp.2.2.2.resolve_left h0)]; rfl
section
variable {K : Int} {L : List Lt}
theorem check_forget (h : checkE K L = 0) {f : Int} (h1 : 1 ≤ f) (h2 : f ≤ K) : checkE (K - 1) (forgetL L f) = 0 := by
  have hp := check_parts h
  exact check_img2 h (by omega) (by omega) (List.length_map _) (count_map (fun x => fg_kind.1) L) (fun a b => forget_valid a b h1 h2)
theorem place_parts {g l : Int} (hp : placeB K L g l = true) : 0 ≤ g ∧ g ≤ K ∧ 0 ≤ l ∧ l ≤ (gN L g L.length : Int) := by
  unfold placeB at hp
  simp only [Bool.and_eq_true, decide_eq_true_eq] at hp
  exact ⟨hp.1.1.1, hp.1.1.2, hp.1.2, hp.2⟩
theorem check_insert (h : checkE K L = 0) {g l : Int} (hp : placeB K L g l = true) (hK : K < 40) : checkE (K + 1) (insertL L g l) = 0 := by
  have hq := place_parts hp
  have hr := check_parts h
  exact check_img2 h (by omega) (by omega) (List.length_map _) (count_map (fun x => in_kind.1) L) (fun a b => insert_valid a b hq.2.2.1 hq.2.2.2)
theorem forget_ins (h : checkE K L = 0) {g l : Int} (hp : placeB K L g l = true) : forgetL (insertL L g l) (g + 1) = L := by
  have hq := place_parts hp
  rcases Nat.eq_zero_or_pos L.length with e | e
  · rw [List.length_eq_zero_iff] at e; subst e; rfl
  · exact forget_insert (good_of_valid e ((check_parts h).2.2.2.resolve_left (by omega))) hq.2.2.1 hq.2.2.2
theorem ins_ok (h : checkE K L = 0) {g l : Int} (hp : placeB K L g l = true) (hK : K < 40) : insE K L g l = 0 ∧ insK K L g l = K + 1 ∧ insM K L g l = insertL L g l := by
  have e : insE K L g l = 0 := by unfold insE; rw [if_neg (by rw [h]; simp), if_pos ⟨hp, hK⟩]
  exact ⟨e, by unfold insK; rw [if_pos e], by unfold insM; rw [if_pos e]⟩
theorem for_ok (h : checkE K L = 0) {f : Int} (h1 : 1 ≤ f) (h2 : f ≤ K) : forE K L f = 0 ∧ forK K L f = K - 1 ∧ forL K L f = forgetL L f := by
  have e : forE K L f = 0 := by unfold forE; rw [if_neg (by rw [h]; simp), if_neg (by omega)]
  exact ⟨e, by unfold forK; rw [if_pos e], by unfold forL; rw [if_pos e]⟩
end
end
end Go.Proofs.YtkjcmppaapbabaaDoor
