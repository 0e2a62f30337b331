/-
  Contract: the document's Back. Conditions: the letters read and are tame.
-/
import Derived.Test.YtkjcmppaapbabaaDoorT10
import Derived.Test.YtkjcmppaapbabaaDoorT13
namespace Go.Proofs.YtkjcmppaapbabaaDoor
open Go.RowKit
theorem buildL1 (x : Lt) (w : World) : (Instr.buildSlice 22 1 #[(0, .agg #[.int .i64 x.kind, .int .i64 x.gate, .int .i64 x.rank, .int .i64 x.id, .int .i64 x.sign, .bool x.over])]).run Tryd.prog w = .ok (.slice (some ⟨w.heap.size, 0, none⟩) 1 1) (w.alloc (.cells #[.int .i64 x.kind, .int .i64 x.gate, .int .i64 x.rank, .int .i64 x.id, .int .i64 x.sign, .bool x.over] 46)) := by
  obtain ⟨i0, hi, hz0, hz1, hz2⟩ := info_parts ltInfo
  refine run_buildSlice w _ _ 1 _ _ i0 _ Tryd.underlying22 hi hz0 (by rw [hz1]; omega) (by rw [hz1]; omega) ?_
  rw [hz1]
  kernel_rfl
theorem lets_built (x : Lt) (hx : LtOk x) (w : World) : Lets (w.alloc (.cells #[.int .i64 x.kind, .int .i64 x.gate, .int .i64 x.rank, .int .i64 x.id, .int .i64 x.sign, .bool x.over] 46)) (some ⟨w.heap.size, 0, none⟩) 1 [x] := by
  have h : Blk (w.alloc (.cells #[.int .i64 x.kind, .int .i64 x.gate, .int .i64 x.rank, .int .i64 x.id, .int .i64 x.sign, .bool x.over] 46)) w.heap.size 46 ([x].flatMap ltC).toArray := Blk.new _ _ _
  exact (OwnL.block (base := 0) h (Nat.zero_le _) (fun y hy => by simp at hy; subst hy; exact hx) (by simp)).lets
/-- A code under way: its letters, its directions. -/
structure BackI (w X wr : World) (K : Int) (A1 : Option Addr) (t1 c1 : Nat) (A2 : Option Addr) (t2 c2 : Nat) (M : List Lt) (D : List Bool) : Prop where
  out : OwnL wr X.heap.size A1 t1 c1 M
  dn : OwnD wr X.heap.size A2 t2 c2 D
  bk : Blk wr (w.heap.size + 1 + 1) 24 #[.int .i64 K, .slice A1 t1 c1]
  sep : ∀ q, blk A1 = some q → blk A2 ≠ some q
  old : Below (w.heap.size + 1 + 1) X wr
  size : X.heap.size ≤ wr.heap.size
section
variable {w X wr wx : World} {K : Int} {A1 A2 A' : Option Addr} {t1 c1 t2 c2 t' c' : Nat} {M M' : List Lt} {D D' : List Bool}
theorem BackI.next (h : BackI w X wr K A1 t1 c1 A2 t2 c2 M D) (hb : Below wr.heap.size wr wx) : BackI w X wx K A1 t1 c1 A2 t2 c2 M D :=
  ⟨h.out.next hb, Row.below h.dn hb, h.bk.below hb h.bk.lt, h.sep, h.old.trans (hb.mono (by have := h.bk.lt; omega)), Nat.le_trans h.size hb.size⟩
theorem BackI.push (h : BackI w X wr K A1 t1 c1 A2 t2 c2 M D) (hX : w.heap.size + 1 + 1 < X.heap.size) (hg : wr.grownBy wx (blk A2)) (hD : OwnD wx X.heap.size A' t' c' D') (hl : ∀ k, blk A' = some k → blk A2 = some k ∨ wr.heap.size ≤ k) : BackI w X wx K A1 t1 c1 A' t' c' M D' := by
  refine ⟨⟨h.out.row.kept hg ?_, h.out.fits, h.out.le⟩, hD, h.bk.grown hg (fun e => ?_), fun q hq e => ?_, h.old.trans ((Below.refl _ _).grown hg (by have := h.bk.lt; omega) (fun k hk => ?_)), Nat.le_trans h.size hg.size⟩
  · cases hb : blk A1 with
    | none => exact .inl rfl
    | some q => exact .inr (fun e => h.sep q hb e.symm)
  · have := (Row.lt h.dn _ e.symm).1; omega
  · rcases hl q e with h1 | h1
    · exact h.sep q hq h1
    · have := (h.out.row.lt q hq).2; omega
  · have := (Row.lt h.dn k hk).1; omega
theorem BackI.grow (h : BackI w X wr K A1 t1 c1 A2 t2 c2 M D) (hX : w.heap.size + 1 + 1 < X.heap.size) (hg : wr.grownBy wx (blk A1)) (hO : OwnL wx X.heap.size A' t' c' M') (hl : ∀ k, blk A' = some k → blk A1 = some k ∨ wr.heap.size ≤ k) :
    BackI w X (wx.setCell ⟨w.heap.size + 1 + 1, 1, none⟩ (.slice A' t' c')) K A' t' c' A2 t2 c2 M' D := by
  have g1 := only_setCell (World.grownBy.refl wx (some (w.heap.size + 1 + 1))) (p := ⟨w.heap.size + 1 + 1, 1, none⟩) (.inl rfl) (.slice A' t' c')
  have hbk : Blk wx (w.heap.size + 1 + 1) 24 #[.int .i64 K, .slice A1 t1 c1] := h.bk.grown hg (fun e => by have := (h.out.row.lt _ e.symm).1; omega)
  have hdn : OwnD wx X.heap.size A2 t2 c2 D := Row.kept h.dn hg (by
    cases hb : blk A2 with
    | none => exact .inl rfl
    | some q => exact .inr (fun e => h.sep q e.symm hb))
  refine ⟨⟨hO.row.kept g1 ?_, hO.fits, hO.le⟩, Row.kept hdn g1 ?_, hbk.set_ 1 _, fun q hq e => ?_, (h.old.trans ((Below.refl _ _).grown hg (by have := h.bk.lt; omega) (fun k hk => ?_))).setCell (p := ⟨w.heap.size + 1 + 1, 1, none⟩) (Nat.le_refl _) _, ?_⟩
  · cases hb : blk A' with
    | none => exact .inl rfl
    | some q => exact .inr (by have := (hO.row.lt q hb).1; simp; omega)
  · cases hb : blk A2 with
    | none => exact .inl rfl
    | some q => exact .inr (by have := (Row.lt hdn q hb).1; simp; omega)
  · rcases hl q hq with h1 | h1
    · exact h.sep q h1 e
    · have := (Row.lt h.dn q e).2; omega
  · have := (h.out.row.lt k hk).1; omega
  · have := h.size; have := hg.size; simp [World.setCell]; omega
end
theorem copy_ends2 {w X wr : World} {K : Int} {A : Option Addr} {n c : Nat} {M : List Lt} (hR : Blk wr (w.heap.size + 1) 24 #[.int .i64 0, .slice none 0 0]) (hb : Below (w.heap.size + 1 + 1) X wr) (hbx : Below w.heap.size w X) (hX : w.heap.size + 1 < X.heap.size) (h : OwnL wr X.heap.size A n c M) :
    Blk ((wr.setCell ⟨w.heap.size + 1, 0, none⟩ (.int .i64 K)).setCell ⟨w.heap.size + 1, 1, none⟩ (.slice A n c)) (w.heap.size + 1) 24 #[.int .i64 K, .slice A n c] ∧
    OwnL ((wr.setCell ⟨w.heap.size + 1, 0, none⟩ (.int .i64 K)).setCell ⟨w.heap.size + 1, 1, none⟩ (.slice A n c)) w.heap.size A n c M ∧
    Below w.heap.size w ((wr.setCell ⟨w.heap.size + 1, 0, none⟩ (.int .i64 K)).setCell ⟨w.heap.size + 1, 1, none⟩ (.slice A n c)) := by
  refine ⟨(hR.set_ 0 _).set_ 1 _, ?_, ((below_chain hbx hb (by omega)).setCell (p := ⟨w.heap.size + 1, 0, none⟩) (by simp) (.int .i64 K)).setCell (p := ⟨w.heap.size + 1, 1, none⟩) (by simp) (.slice A n c)⟩
  have gS := only_setCell (only_setCell (World.grownBy.refl wr (some (w.heap.size + 1))) (p := ⟨w.heap.size + 1, 0, none⟩) (.inl rfl) (.int .i64 K)) (p := ⟨w.heap.size + 1, 1, none⟩) (.inl rfl) (.slice A n c)
  refine ⟨(h.row.kept gS ?_).mono (by omega), h.fits, h.le⟩
  cases hb : blk A with
  | none => exact .inl rfl
  | some q => exact .inr (by have := (h.row.lt q hb).1; simp; omega)
set_option maxRecDepth 100000 in
set_option maxHeartbeats 6400000 in
theorem cref_Back (K : Int) (A : Option Addr) (n c : Nat) (L : List Lt) (w : World) (hA : Lets w A n L) (hs : Tame K L) :
    Calls Tryd.prog 45 #[.agg #[.int .i64 K, .slice A n c]] w (GivesC w K (backL L)) := by
  have hle := hA.le
  have hLn := Lib.hid hA.len
  have hn4 : n ≤ 400 := by have := hs.len; have := hA.len; omega
  have hbb := buildB1
  have hb1c := build_code1 K
  have hRl : L.reverse.length = n := by simp [hLn.out]
  have HRL := Lib.hid hRl
  have HBK := Lib.hid (show backL L = settleL L.reverse (fun i => !dwn L (n - 1 - i)) by unfold backL; rw [hLn.out])
  have HTK := Lib.hid (show ∀ i t, i + t + 1 = n → L.reverse.take t ++ [la L i] = L.reverse.take (t + 1) from fun i t h => by
    rw [List.take_add_one, la_get (by rw [hRl]; omega), la_rev hLn.out (by omega), show n - 1 - t = i by omega]; rfl)
  generalize hM : L.reverse = M at HRL HBK HTK
  have HM := Lib.hid hM
  have hbx : Boxed w (((w.alloc (.cells #[.int .i64 K, .slice A n c] 24)).alloc (.cells #[.int .i64 0, .slice none 0 0] 24)).alloc (.cells #[.int .i64 K, .slice none 0 0] 24)) K A n c := ((Boxed.refl w K A n c).alloc _).alloc _
  have hR0 : Blk (((w.alloc (.cells #[.int .i64 K, .slice A n c] 24)).alloc (.cells #[.int .i64 0, .slice none 0 0] 24)).alloc (.cells #[.int .i64 K, .slice none 0 0] 24)) (w.heap.size + 1) 24 #[.int .i64 0, .slice none 0 0] := Blk.alloc (heap_alloc2_new w _ _) _
  have hO0 : Blk (((w.alloc (.cells #[.int .i64 K, .slice A n c] 24)).alloc (.cells #[.int .i64 0, .slice none 0 0] 24)).alloc (.cells #[.int .i64 K, .slice none 0 0] 24)) (w.heap.size + 1 + 1) 24 #[.int .i64 K, .slice none 0 0] := by
    unfold Blk
    rw [show w.heap.size + 1 + 1 = (w.alloc (.cells #[.int .i64 K, .slice A n c] 24)).heap.size + 1 by simp]
    exact heap_alloc2_new _ _ _
  clear hs hM hRl
  go_enter Tryd.func45, Tryd.ntmps45
  go_wp2_with fail
  generalize ((w.alloc (.cells #[.int .i64 K, .slice A n c] 24)).alloc (.cells #[.int .i64 0, .slice none 0 0] 24)).alloc (.cells #[.int .i64 K, .slice none 0 0] 24) = X at hbx hR0 hO0 ⊢
  have hX := hO0.lt
  have hI0 : BackI w X X K none 0 0 none 0 0 (M.take 0) ((List.range 0).map (fun i => !dwn L (n - 1 - i))) := ⟨OwnL.nil _ _, Row.none_ _ _ _, hO0, (fun q hq => by cases hq), Below.refl _ _, Nat.le_refl _⟩
  clear hO0
  go_loopw [4, 5] (fun v4 v5 wr => ∃ (t : Nat) (x : Int) (A1 A2 : Option Addr) (c1 c2 : Nat), t ≤ n ∧ v5 = .int .i64 x ∧ Hid (x = (n : Int) - 1 - (t : Int)) ∧ v4 = .slice A2 t c2 ∧ BackI w X wr K A1 t c1 A2 t c2 (M.take t) ((List.range t).map (fun i => !dwn L (n - 1 - i)))) (fun _ v5 _ => (intOf v5 + 1).toNat)
  case atStart => exact ⟨0, (n : Int) - 1, none, none, 0, 0, Nat.zero_le _, rfl, Lib.hid (by simp), rfl, hI0⟩
  case round =>
    obtain ⟨t, x, A1, A2, c1, c2, ht, rfl, HX, rfl, hI⟩ := hrel
    clear hI0
    have hbxr : Boxed w wr K A n c := hbx.moreB hI.old (by omega)
    have hR := hR0.below hI.old (by omega)
    by_cases hlt : t < n
    · obtain ⟨i, hi⟩ : ∃ i : Nat, i + t + 1 = n := ⟨n - 1 - t, by omega⟩
      have hx : x = (i : Int) := by have := HX.out; omega
      subst hx
      have hin : i < n := by omega
      obtain ⟨ga, oa, rfl, hga, hxa, hok⟩ := (hA.below hbxr.below).at_ hin
      obtain ⟨z0, z1, z2, z3, z4, z5⟩ := hxa
      have i0 : (0 : Int) ≤ (i : Int) := by omega
      have i1 : (i : Int) < (n : Int) := by omega
      have hbl := buildL1 (la L i)
      have o1 : wr.cell? ⟨w.heap.size + 1 + 1, 1, none⟩ = some (.slice A1 t c1) := (hI.bk.cell 1).trans rfl
      have e1 := hbxr.c1
      have hlo := hI.bk.lt
      have f1 := hI.bk.frozen 1
      have hI1 := (hI.next (Below.refl _ _).drew).next ((Below.refl _ _).alloc (Nat.le_refl _) (.cells #[.int .i64 (la L i).kind, .int .i64 (la L i).gate, .int .i64 (la L i).rank, .int .i64 (la L i).id, .int .i64 (la L i).sign, .bool (la L i).over] 46))
      have HSL := Lib.hid (show (List.range t).map (fun i => !dwn L (n - 1 - i)) ++ [!dwn L i] = (List.range (t + 1)).map (fun i => !dwn L (n - 1 - i)) from by simp [List.range_succ, show n - 1 - t = i by omega])
      clear HX
      go_upto_region 6 with fail
      go_region_law (first
        | ((refine stepL (base := X.heap.size) (A := A1) (n := t) (c := c1) (L := M.take t) (B := some ⟨wr.heap.size, 0, none⟩) (m := 1) (d := 1) (M := [la L i]) rfl (.tmp 18) (.tmp 24) (by rfl) (by rfl) (by rfl) hI1.out (lets_built (la L i) hok wr.drew) (t + 1) rfl (by omega) hI1.size ?_)
           intro A3 c3 w3 hown3 hg3 hl3
           have kI := hI1.grow hX hg3 hown3 hl3
           have r1 : w3.cell? ⟨w.heap.size + 1 + 1, 1, none⟩ = some (.slice A1 t c1) := ((hI1.bk.grown hg3 (fun e => by have := (hI1.out.row.lt _ e.symm).1; omega)).cell 1).trans rfl
           have r2 : w3.frozen? ⟨w.heap.size + 1 + 1, 1, none⟩ = false := (hI1.bk.grown hg3 (fun e => by have := (hI1.out.row.lt _ e.symm).1; omega)).frozen 1))
      all_goals
        rw [HTK.out i t hi] at kI
        have hbI := below_chain hbx.below kI.old (by omega)
        have e2 := (hbx.moreB kI.old (by omega)).c0
        have e3 := (hbx.moreB kI.old (by omega)).c1
        have hAI := hA.below hbI
        clear r1 r2 o1 e1 f1 z0 z1 z2 z3 z4 z5 hI hI1 hg3 hl3 hown3 hbl
        go_upto_region 7 with fail
        generalize w3.setCell ⟨w.heap.size + 1 + 1, 1, none⟩ (.slice A3 (t + 1) c3) = V at kI e2 e3 hAI hbI ⊢
        go_wp2_with fail
        refine (ref_Down K i (some ⟨ga, oa, none⟩) n c L _ hAI (by omega)).mono ?_
        rintro e wD ⟨rfl, hbD⟩
        have kD := kI.next hbD
        clear kI e2 e3
        go_wp2_with (at_builtin; refine pushD rfl _ _ rfl kD.dn (!dwn L i) rfl wD.heap.size rfl rfl (t + 1) rfl (by omega) kD.size ?_; intro A4 c4 w4 hD4 hg4 hl4)
        have kE := kD.push hX hg4 hD4 hl4
        rw [HSL.out] at kE
        clear kD hD4 hg4 hl4
        go_wp2_with fail
        go_roundw
        case rel => exact ⟨t + 1, (i : Int) - 1, A3, A4, c3, c4, by omega, by go_num, Lib.hid (by omega), rfl, kE⟩
        case measure => simp [intOf]
    · have htn : t = n := by omega
      have hx : x = -1 := by have := HX.out; omega
      subst htn
      subst hx
      have hout := hI.out
      have hdn := hI.dn
      rw [List.take_of_length_le (by rw [HRL.out]; exact Nat.le_refl _)] at hout
      have hsc := cref_Settle K A1 t c1 M A2 c2 (fun i => !dwn L (t - 1 - i)) wr hout.lets hout.row.cap hdn.bools
      have HSC := Lib.hid hsc
      have o0 : wr.cell? ⟨w.heap.size + 1 + 1, 0, none⟩ = some (.int .i64 K) := (hI.bk.cell 0).trans rfl
      have o1 : wr.cell? ⟨w.heap.size + 1 + 1, 1, none⟩ = some (.slice A1 t c1) := (hI.bk.cell 1).trans rfl
      have hsz := hI.size
      have hold := hI.old
      clear hI hout hdn hsc HX
      go_wp2_with fail
      refine HSC.out.mono ?_
      rintro e w5 ⟨A5, n5, c5, rfl, hL5, hb5⟩
      have hR5 := hR.below hb5 hR.lt
      have r0 : w5.cell? ⟨w.heap.size + 1, 0, none⟩ = some (.int .i64 0) := (hR5.cell 0).trans rfl
      have r1 : w5.cell? ⟨w.heap.size + 1, 1, none⟩ = some (.slice none 0 0) := (hR5.cell 1).trans rfl
      have z0 := hR5.frozen 0
      have z1 := hR5.frozen 1
      have hL6 := hL5.mono hsz
      have hb6 : Below (w.heap.size + 1 + 1) X w5 := below_chain hold hb5 (by omega)
      have hG := copy_ends2 (w := w) (X := X) (K := K) hR5 hb6 hbx.below (by omega) hL6
      clear hR hR5 o0 o1
      go_wp2_with fail
      (try simp only [Exit.inBlock, Exit.then])
      refine ret_cellB rfl rfl hG.1 Tryd.underlying24 rfl (by kernel_rfl) rfl ?_
      exact ⟨A5, n5, c5, rfl, by rw [HBK.out]; exact hG.2.1, hG.2.2⟩
end Go.Proofs.YtkjcmppaapbabaaDoor
