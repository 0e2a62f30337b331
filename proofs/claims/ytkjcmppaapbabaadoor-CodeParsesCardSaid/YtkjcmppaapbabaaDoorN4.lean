/-
  Contract: the program's Forget. Conditions: the letters read.
-/
import Derived.Test.YtkjcmppaapbabaaDoorJG
import Derived.Test.YtkjcmppaapbabaaDoorJF
import Derived.Test.YtkjcmppaapbabaaDoorJA
namespace Go.Proofs.YtkjcmppaapbabaaDoor
open Go.RowKit
def forE (K : Int) (L : List Lt) (f : Int) : Int := if checkE K L ≠ 0 then checkE K L else if f < 1 ∨ K < f then 2 else 0
def forK (K : Int) (L : List Lt) (f : Int) : Int := if forE K L f = 0 then K - 1 else 0
def forL (K : Int) (L : List Lt) (f : Int) : List Lt := if forE K L f = 0 then forgetL L f else []
def ForgetPost (w : World) (K f : Int) (L : List Lt) (e : Ending) (w' : World) : Prop :=
  ∃ (A' : Option Addr) (n' c' : Nat), e = .returned (.tuple #[.agg #[.int .i64 (forK K L f), .slice A' n' c'], .int .i64 (forE K L f)]) ∧ OwnL w' w.heap.size A' n' c' (forL K L f) ∧ Below w.heap.size w w'
/-- Behind i letters. -/
def Upto (g : Lt → Lt) (L M : List Lt) (i : Nat) : Prop := M.length = L.length ∧ ∀ j, j < L.length → la M j = if j < i then g (la L j) else la L j
theorem Upto.zero (g : Lt → Lt) (L : List Lt) : Upto g L L 0 := ⟨rfl, fun j hj => by rw [if_neg (by omega)]⟩
theorem la_set {M : List Lt} {i j : Nat} {x : Lt} (hi : i < M.length) : la (M.set i x) j = if i = j then x else la M j := by
  unfold la
  rw [List.getElem?_set]
  by_cases e : i = j
  · rw [if_pos e, if_pos e, if_pos hi]; rfl
  · rw [if_neg e, if_neg e]
theorem Upto.set {g : Lt → Lt} {L M : List Lt} {i : Nat} (h : Upto g L M i) (hi : i < L.length) {x : Lt} (hx : x = g (la L i)) : Upto g L (M.set i x) (i + 1) := by
  refine ⟨by simp [h.1], fun j hj => ?_⟩
  rw [la_set (by rw [h.1]; exact hi)]
  by_cases e : i = j
  · subst e; rw [if_pos rfl, if_pos (by omega), hx]
  · rw [if_neg e, h.2 j hj]
    by_cases e2 : j < i
    · rw [if_pos e2, if_pos (by omega)]
    · rw [if_neg e2, if_neg (by omega)]
theorem Upto.skip {g : Lt → Lt} {L M : List Lt} {i : Nat} (h : Upto g L M i) (hx : g (la L i) = la L i) : Upto g L M (i + 1) := by
  refine ⟨h.1, fun j hj => ?_⟩
  rw [h.2 j hj]
  by_cases e2 : j < i
  · rw [if_pos e2, if_pos (by omega)]
  · rw [if_neg e2]
    by_cases e : j = i
    · subst e; rw [if_pos (by omega), hx]
    · rw [if_neg (by omega)]
theorem Upto.all {g : Lt → Lt} {L M : List Lt} (h : Upto g L M L.length) : M = L.map g := by
  apply List.ext_getElem?
  intro j
  by_cases hj : j < L.length
  · rw [la_get (by rw [h.1]; exact hj), h.2 j hj, if_pos hj, List.getElem?_map, la_get hj]; rfl
  · rw [List.getElem?_eq_none (by rw [h.1]; omega), List.getElem?_eq_none (by simp; omega)]
set_option maxRecDepth 100000 in
set_option maxHeartbeats 6400000 in
theorem code_Forget (K f : Int) (hf64 : I64 f) (A : Option Addr) (n c : Nat) (L : List Lt) (w : World) (hA : Lets w A n L) :
    Calls Tryd.prog 36 #[.agg #[.int .i64 K, .slice A n c], .int .i64 f] w (ForgetPost w K f L) := by
  have hLn := Lib.hid hA.len
  have hbc0 := build_code0
  have hbc2 := build_code2
  have hbx : Boxed w ((w.alloc (.cells #[.int .i64 K, .slice A n c] 24)).alloc (.cells #[.int .i64 0, .slice none 0 0] 24)) K A n c := (Boxed.refl w K A n c).alloc _
  have hR0 : Blk ((w.alloc (.cells #[.int .i64 K, .slice A n c] 24)).alloc (.cells #[.int .i64 0, .slice none 0 0] 24)) (w.heap.size + 1) 24 #[.int .i64 0, .slice none 0 0] := heap_alloc2_new w _ _
  obtain ⟨E, hE⟩ : ∃ E, checkE K L = E := ⟨_, rfl⟩
  have HE := Lib.hid hE
  clear hE
  go_enter Tryd.func36, Tryd.ntmps36
  go_wp2_with fail
  generalize (w.alloc (.cells #[.int .i64 K, .slice A n c] 24)).alloc (.cells #[.int .i64 0, .slice none 0 0] 24) = X at hbx hR0 ⊢
  refine (code_read K A n c L _ (hA.below hbx.below)).mono ?_
  rintro e w1 ⟨v, rfl, hb1, hok⟩
  have hR1 := hR0.below hb1 hR0.lt
  have hb2 := hbx.more hb1
  have x0 := hb2.c0
  have r0 : w1.cell? ⟨w.heap.size + 1, 0, none⟩ = some (.int .i64 0) := (hR1.cell 0).trans rfl
  have r1 : w1.cell? ⟨w.heap.size + 1, 1, none⟩ = some (.slice none 0 0) := (hR1.cell 1).trans rfl
  have z0 := hR1.frozen 0
  have z1 := hR1.frozen 1
  rw [HE.out]
  by_cases hz : E = 0
  · subst hz
    obtain ⟨p, rfl, k, rfl, hk40, hn400, hp, hcase⟩ := hok HE.out
    by_cases hfr : f < 1 ∨ (k : Int) < f
    · have hf := Lib.hid (show forE (k : Int) L f = 2 by unfold forE; rw [HE.out, if_neg (by simp), if_pos hfr])
      have hall : f < 1 ∨ (decide (f < 1) = false ∧ (k : Int) < f) := by simp; omega
      have hS : Blk ((w1.setCell ⟨w.heap.size + 1, 0, none⟩ (.int .i64 0)).setCell ⟨w.heap.size + 1, 1, none⟩ (.slice none 0 0)) (w.heap.size + 1) 24 #[.int .i64 0, .slice none 0 0] := (hR1.set_ 0 _).set_ 1 _
      have hbS := (hb2.below.setCell (p := ⟨w.heap.size + 1, 0, none⟩) (by simp) (.int .i64 0)).setCell (p := ⟨w.heap.size + 1, 1, none⟩) (by simp) (.slice none 0 0)
      clear hfr hok hR0 hR1 hb1 hbx hcase
      rcases hall with h1 | ⟨h1, h2⟩
      all_goals
        go_wp2_with fail
        (try simp only [Exit.inBlock, Exit.then])
        refine ret_cellT rfl rfl rfl hS Tryd.underlying24 rfl (by kernel_rfl) rfl ?_
        exact ⟨none, 0, 0, by unfold forK; rw [hf.out]; rfl, by unfold forL; rw [hf.out, if_neg (by omega)]; exact OwnL.nil _ _, hbS⟩
    · have hf := Lib.hid (show forE (k : Int) L f = 0 by unfold forE; rw [HE.out, if_neg (by simp), if_neg hfr])
      obtain ⟨fn, rfl⟩ : ∃ fn : Nat, f = (fn : Int) := ⟨f.toNat, by omega⟩
      have h1 : decide ((fn : Int) < 1) = false := by simp; omega
      have h2 : decide ((k : Int) < (fn : Int)) = false := by simp; omega
      have hf1 : 1 ≤ fn := by omega
      have hfk : fn ≤ k := by omega
      have hplt : p < w1.heap.size := by
        rcases hcase with ⟨_, hd⟩ | ⟨_, base, b, g2, g3, g4, g6, s, P, C, ids, _, hF⟩
        · exact hd.lt
        · exact hF.ranks.dia.lt
      have d1 : w1.cell? ⟨p, 1, none⟩ = some (.slice A n c) := by
        rcases hcase with ⟨_, hd⟩ | ⟨_, base, b, g2, g3, g4, g6, s, P, C, ids, _, hF⟩
        · exact hd.c1
        · exact hF.ranks.dia.c1
      have HC := Lib.hid hcase
      have hA1 := hA.below hb2.below
      have hsz1 := hb2.size
      have hR1lt := hR1.lt
      clear hfr hok hR0 hb1 hbx hcase r0 r1 z0 z1
      go_wp2_with fail
      refine (clone_letters A n c L _ hA1).mono ?_
      rintro e w2 ⟨A2, c2, rfl, hL2, hb3⟩
      have hst : Hid (Upto (fgLt L fn) L L 0) := Lib.hid (Upto.zero _ _)
      clear d1
      go_wp2_with fail
      go_loopw [9, 10, 37] (fun _ _ v37 wr => ∃ (i : Nat) (Lw : List Lt), i ≤ n ∧ v37 = .int .i64 i ∧ OwnL wr w1.heap.size A2 n c2 Lw ∧ Below w1.heap.size w1 wr ∧ Hid (Upto (fgLt L fn) L Lw i)) (fun _ _ v37 _ => n - (intOf v37).toNat)
      case atStart => exact ⟨0, L, Nat.zero_le _, rfl, hL2, hb3, hst⟩
      case round =>
        obtain ⟨i, Lw, hi, rfl, hLw, hbr, HU⟩ := hrel
        clear hL2 hb3 hst
        by_cases hlt : i < n
        · obtain ⟨gg, o, rfl, hgg, hx, hok⟩ := hLw.lets.at_ hlt
          have hlw : la Lw i = la L i := by rw [HU.out.2 i (by rw [hLn.out]; exact hlt), if_neg (by omega)]
          have hgi : Lw[i]? = some (la L i) := by rw [la_get (by rw [hLw.len]; exact hlt), hlw]
          rw [hlw] at hx hok
          obtain ⟨y0, y1, y2, y3, y4, y5⟩ := hx
          have i0 : (0 : Int) ≤ (i : Int) := by omega
          have i1 : (i : Int) < (n : Int) := by omega
          have hcap := hLw.row.cap
          have f1 : wr.frozen? ⟨gg, o + i * 6 + 1, none⟩ = false := hLw.row.free (j := i * 6 + 1) (by omega)
          have f2 : wr.frozen? ⟨gg, o + i * 6 + 2, none⟩ = false := hLw.row.free (j := i * 6 + 2) (by omega)
          have hgb := (hLw.row.at_ _ rfl).2.1
          simp only [] at hgb
          have hszr := hbr.size
          obtain ⟨base, b, g2, g3, g4, g6, s, P, C, ids, _, hF⟩ : ∃ base b g2 g3 g4 g6 s P C ids, X.heap.size ≤ base ∧ DiaF w1 base p k A n c L b g2 g3 g4 g6 s P C ids := by
            rcases HC.out with ⟨h, _⟩ | ⟨_, h⟩
            · omega
            · exact h
          have hFr := hF.next hbr
          have hpass : isP (la L i) = true → 0 ≤ (la L i).gate ∧ (la L i).gate ≤ (k : Int) := fun hp => hFr.good.gates i (by rw [hLn.out]; exact hlt) hp
          have HOK := Lib.hid hok
          have HGI := Lib.hid hgi
          clear hok hgi hlw
          by_cases hk1 : (la L i).kind = 1
          · have hp := isP_t hk1
            have q1 : ((la L i).kind != 1) = false := by simpa using hk1
            have hgt := hpass hp
            have HP := Lib.hid hp
            clear hk1 hp hpass
            by_cases hg1 : (la L i).gate < (fn : Int)
            · have HU1 := Lib.hid (HU.out.skip (fg_no (L := L) (f := fn) (l := la L i) (by omega)))
              clear hFr hF HU
              go_wp2_with fail
              go_roundw
              case rel => exact ⟨i + 1, Lw, by omega, by go_num, hLw.alloc _, hbr.alloc hbr.size _, HU1⟩
              case measure => simp [intOf]; omega
            · have q2 : decide ((la L i).gate < (fn : Int)) = false := by simp; omega
              have hokg : ∀ r, I64 r → LtOk { la L i with gate := (la L i).gate - 1, rank := r } := fun r hr => ⟨HOK.out.kind, ⟨by simp only []; omega, by simp only []; omega⟩, hr, HOK.out.id, HOK.out.sign⟩
              have hL1 := hLw.put (i := 1) (u := .int .i64 ((la L i).gate - 1)) (x' := { la L i with gate := (la L i).gate - 1 }) HGI.out (by omega) rfl (hokg _ HOK.out.rank) rfl
              have hb4 := hbr.setCell (p := ⟨gg, o + (i * 6 + 1), none⟩) hgb (.int .i64 ((la L i).gate - 1))
              by_cases hg2 : (la L i).gate = (fn : Int)
              · have q3 : ((la L i).gate == (fn : Int)) = true := by simpa using hg2
                obtain ⟨fm, hfm⟩ : ∃ fm : Nat, (fn : Int) - 1 = (fm : Int) := ⟨fn - 1, by omega⟩
                have hcc := hFr.ranks.count.cell (hFr.ranks.counts fm (by omega))
                have hgn := gN_lt L (fm : Int) n
                have hrb : 1 ≤ (la L i).rank ∧ (la L i).rank ≤ 400 := by
                  have := (hFr.good.rank HP.out)
                  have h3 := gN_lt L (la L i).gate L.length
                  rw [hLn.out] at this h3
                  exact ⟨by omega, by omega⟩
                obtain ⟨hrb1, hrb2⟩ := hrb
                have hgb2 : (gN L (fm : Int) n : Int) ≤ 400 := by omega
                have hr64 : I64 ((la L i).rank + (gN L (fm : Int) n : Int)) := ⟨by omega, by omega⟩
                have hL2 := hL1.put (i := 2) (j := i) (x := { la L i with gate := (la L i).gate - 1 }) (u := .int .i64 ((la L i).rank + (gN L (fm : Int) n : Int))) (x' := { la L i with gate := (la L i).gate - 1, rank := (la L i).rank + (gN L (fm : Int) n : Int) }) (by rw [List.getElem?_set_self (by rw [hLw.len]; exact hlt)]) (by omega) rfl (hokg _ hr64) rfl
                rw [List.set_set] at hL2
                have hb5 := hb4.setCell (p := ⟨gg, o + (i * 6 + 2), none⟩) hgb (.int .i64 ((la L i).rank + (gN L (fm : Int) n : Int)))
                have HU1 := Lib.hid (HU.out.set (by rw [hLn.out]; exact hlt) (x := { la L i with gate := (la L i).gate - 1, rank := (la L i).rank + (gN L (fm : Int) n : Int) }) (by
                  rw [fg_eq (L := L) (f := fn) HP.out hg2, hLn.out, hfm]))
                have c6 := hFr.ranks.dia.c6
                have l6 := hFr.ranks.count.lt
                have lp := hFr.ranks.dia.lt
                have m1 : p < w1.heap.size := hplt
                have m2 := hF.ranks.count.lt
                have m3 : gg ≠ p := by omega
                have m4 : gg ≠ g6 := by omega
                have m5 : (0 : Int) ≤ (fm : Int) := by omega
                have m6 : (fm : Int) < (k : Int) + 1 := by omega
                have HFM := Lib.hid hfm
                have HOG := Lib.hid hokg
                clear hFr hF HU hg2 hokg
                go_wp2_with fail
                go_region
                go_wp2_with fail
                go_roundw
                case rel => exact ⟨i + 1, _, by omega, by go_num, by first | exact hL2.alloc _ | exact (hL2.alloc _).next (Below.refl _ _).drew, by first | exact hb5.alloc hb5.size _ | exact (hb5.alloc hb5.size _).drew, HU1⟩
                case measure => simp [intOf]; omega
              · have q3 : ((la L i).gate == (fn : Int)) = false := by simpa using hg2
                have HU1 := Lib.hid (HU.out.set (by rw [hLn.out]; exact hlt) (fg_up (L := L) (f := fn) HP.out (by omega)).symm)
                have HOG := Lib.hid hokg
                clear hFr hF HU hg2 hokg
                go_wp2_with fail
                go_roundw
                case rel => exact ⟨i + 1, _, by omega, by go_num, hL1.alloc _, hb4.alloc hb4.size _, HU1⟩
                case measure => simp [intOf]; omega
          · have q1 : ((la L i).kind != 1) = true := by simpa using hk1
            have HU1 := Lib.hid (HU.out.skip (fg_no (L := L) (f := fn) (l := la L i) (by rw [isP_f hk1]; simp)))
            clear hFr hF hk1 hpass HU
            go_wp2_with fail
            go_roundw
            case rel => exact ⟨i + 1, Lw, by omega, by go_num, hLw.alloc _, hbr.alloc hbr.size _, HU1⟩
            case measure => simp [intOf]; omega
        · have hin : i = n := by omega
          have hU := HU.out
          rw [hin, ← hLn.out] at hU
          have hLf := hU.all
          rw [hLf] at hLw
          have i1 : ¬ (i : Int) < (n : Int) := by omega
          have hszr := hbr.size
          have hR3 := hR1.below hbr hR1lt
          have r0 : wr.cell? ⟨w.heap.size + 1, 0, none⟩ = some (.int .i64 0) := (hR3.cell 0).trans rfl
          have r1 : wr.cell? ⟨w.heap.size + 1, 1, none⟩ = some (.slice none 0 0) := (hR3.cell 1).trans rfl
          have z0 := hR3.frozen 0
          have z1 := hR3.frozen 1
          have e0 := (hbr.cell (p := ⟨w.heap.size, 0, none⟩) (by simp; omega)).trans x0
          have hS : Blk ((wr.setCell ⟨w.heap.size + 1, 0, none⟩ (.int .i64 ((k : Int) - 1))).setCell ⟨w.heap.size + 1, 1, none⟩ (.slice A2 n c2)) (w.heap.size + 1) 24 #[.int .i64 ((k : Int) - 1), .slice A2 n c2] := (hR3.set_ 0 _).set_ 1 _
          have hbS := ((below_chain hb2.below hbr (by omega)).setCell (p := ⟨w.heap.size + 1, 0, none⟩) (by simp) (.int .i64 ((k : Int) - 1))).setCell (p := ⟨w.heap.size + 1, 1, none⟩) (by simp) (.slice A2 n c2)
          have g1 := only_setCell (only_setCell (World.grownBy.refl wr (some (w.heap.size + 1))) (p := ⟨w.heap.size + 1, 0, none⟩) (.inl rfl) (.int .i64 ((k : Int) - 1))) (p := ⟨w.heap.size + 1, 1, none⟩) (.inl rfl) (.slice A2 n c2)
          have hLk : OwnL ((wr.setCell ⟨w.heap.size + 1, 0, none⟩ (.int .i64 ((k : Int) - 1))).setCell ⟨w.heap.size + 1, 1, none⟩ (.slice A2 n c2)) w.heap.size A2 n c2 (L.map (fgLt L fn)) := by
            refine ⟨(hLw.row.kept g1 ?_).mono (by omega), hLw.fits, hLw.le⟩
            cases hb : blk A2 with
            | none => exact .inl rfl
            | some q => exact .inr (by have := (hLw.row.lt q hb).1; simp; omega)
          clear hU hLf hin HU hR1 hR3 hLw g1 hbr x0
          go_wp2_with fail
          (try simp only [Exit.inBlock, Exit.then])
          refine ret_cellT rfl rfl rfl hS Tryd.underlying24 rfl (by kernel_rfl) rfl ?_
          exact ⟨A2, n, c2, by unfold forK; rw [hf.out, if_pos rfl]; rfl, by unfold forL; rw [hf.out, if_pos rfl]; exact hLk, hbS⟩
  · have q : (E == 0) = false := by simpa using hz
    have hf := Lib.hid (show forE K L f = E by unfold forE; rw [HE.out, if_pos hz])
    have hS : Blk ((w1.setCell ⟨w.heap.size + 1, 0, none⟩ (.int .i64 0)).setCell ⟨w.heap.size + 1, 1, none⟩ (.slice none 0 0)) (w.heap.size + 1) 24 #[.int .i64 0, .slice none 0 0] := (hR1.set_ 0 _).set_ 1 _
    have hbS := (hb2.below.setCell (p := ⟨w.heap.size + 1, 0, none⟩) (by simp) (.int .i64 0)).setCell (p := ⟨w.heap.size + 1, 1, none⟩) (by simp) (.slice none 0 0)
    have HZ := Lib.hid hz
    clear hz hok hR0 hR1 hb1 hbx
    go_wp2_with fail
    (try simp only [Exit.inBlock, Exit.then])
    refine ret_cellT rfl rfl rfl hS Tryd.underlying24 rfl (by kernel_rfl) rfl ?_
    exact ⟨none, 0, 0, by unfold forK; rw [hf.out, if_neg HZ.out]; rfl, by unfold forL; rw [hf.out, if_neg HZ.out]; exact OwnL.nil _ _, hbS⟩
end Go.Proofs.YtkjcmppaapbabaaDoor
