/-
  The law CodePlain returns true and leaves what was there. Conditions: the arguments read as lists of ints.
-/
import Derived.Test.YtkjcmppaapbabaaDoorJN
import Derived.Test.YtkjcmppaapbabaaDoorJQ
import Derived.Test.YtkjcmppaapbabaaDoorK23
import Derived.Test.YtkjcmppaapbabaaDoorP13
import Derived.Test.YtkjcmppaapbabaaDoorR2
namespace Go.Proofs.YtkjcmppaapbabaaDoor
open Go.RowKit
theorem lat_is {L : List Int} {i : Nat} {x : Int} (h : L[i]? = some x) : lat L i = x := by unfold lat; rw [h]; rfl
/-- The code under way. -/
structure PlnI (w wr : World) (K : Int) (C : Option Addr) (i e : Nat) (L : List Lt) : Prop where
  bk : Blk wr w.heap.size 24 #[.int .i64 K, .slice C i e]
  own : OwnL wr (w.heap.size + 1) C i e L
  old : Below w.heap.size w wr
  size : w.heap.size + 1 ≤ wr.heap.size
theorem PlnI.next {w wr wx : World} {K : Int} {C : Option Addr} {i e : Nat} {L : List Lt} (h : PlnI w wr K C i e L) (hb : Below wr.heap.size wr wx) : PlnI w wx K C i e L :=
  ⟨h.bk.below hb h.bk.lt, h.own.next hb, below_chain h.old hb h.old.size, Nat.le_trans h.size hb.size⟩
theorem PlnI.grown {w wr wx : World} {K : Int} {C C' : Option Addr} {i e i' e' : Nat} {L L' : List Lt} (h : PlnI w wr K C i e L) (hg : wr.grownBy wx (blk C)) (hO : OwnL wx (w.heap.size + 1) C' i' e' L') :
    Blk wx w.heap.size 24 #[.int .i64 K, .slice C i e] ∧ PlnI w (wx.setCell ⟨w.heap.size, 1, none⟩ (.slice C' i' e')) K C' i' e' L' := by
  have hB : Blk wx w.heap.size 24 #[.int .i64 K, .slice C i e] := h.bk.grown hg (fun e => by have := (h.own.row.lt _ e.symm).1; omega)
  have hb : Below w.heap.size w wx := h.old.trans ((Below.refl _ _).grown hg (Nat.le_trans (Nat.le_succ _) h.size) (fun k hk => by have := (h.own.row.lt k hk).1; omega))
  refine ⟨hB, hB.set_ 1 _, ⟨hO.row.kept (only_setCell (World.grownBy.refl wx (some w.heap.size)) (p := ⟨w.heap.size, 1, none⟩) (.inl rfl) _) ?_, hO.fits, hO.le⟩, hb.setCell (p := ⟨w.heap.size, 1, none⟩) (Nat.le_refl _) _, by simpa [World.setCell] using Nat.le_trans h.size hg.size⟩
  cases hc : blk C' with
  | none => exact .inl rfl
  | some q => exact .inr (by have := (hO.row.lt q hc).1; simp; omega)
set_option maxRecDepth 100000 in
set_option maxHeartbeats 12800000 in
theorem codePlain_any (K : Int) (A : Option Addr) (n c : Nat) (W : List Int) (B : Option Addr) (m d : Nat) (R : List Int) (w : World) (_hK : I64 K) (hW : Ints w A n W) (_hc : n ≤ c) (hR : Ints w B m R) (_hd : m ≤ d) :
    Calls Tryd.prog 11 #[.int .i64 K, .slice A n c, .slice B m d] w fun e w' => e = .returned (.bool true) ∧ Below w.heap.size w w' := by
  have hle := hW.le
  have hle2 := hR.le
  have HWn := Lib.hid hW.len
  have HRm := Lib.hid hR.len
  by_cases h30 : 30 < n
  · have q1 : decide ((30 : Int) < (n : Int)) = true := by simp; omega
    have q1' : decide ((n : Int) > 30) = true := q1
    clear h30
    go_enter Tryd.func11, Tryd.ntmps11
    go_wp2_with fail
    refine (law_known _).mono ?_
    rintro e zz ⟨rfl, hb⟩
    go_wp2_with fail
    go_ret
    exact ⟨rfl, hb⟩
  · have q1 : decide ((30 : Int) < (n : Int)) = false := by simp; omega
    have q1' : decide ((n : Int) > 30) = false := q1
    by_cases hmn : m = n
    · have q2 : ((m : Int) != (n : Int)) = false := by simp; omega
      obtain ⟨v, hv⟩ : ∃ v, validB K W = v := ⟨_, rfl⟩
      have HV := Lib.hid hv
      clear hv
      cases v with
      | false =>
        clear h30 hmn
        go_enter Tryd.func11, Tryd.ntmps11
        go_wp2_with fail
        refine (ref_valid K A n c W _ hW).mono ?_
        rintro e w' ⟨rfl, rfl⟩
        rw [HV.out]
        go_wp2_with fail
        refine (law_known _).mono ?_
        rintro e zz ⟨rfl, hb⟩
        go_wp2_with fail
        go_ret
        exact ⟨rfl, hb⟩
      | true =>
        have HN30 := Lib.hid h30
        have HMN := Lib.hid hmn
        clear h30 hmn
        have hbc1 := build_code1
        have hP0 : PlnI w (w.alloc (.cells #[.int .i64 K, .slice none 0 0] 24)) K none 0 0 (plainTo W R 0) := ⟨Blk.new _ _ _, OwnL.nil _ _, (Below.refl _ _).alloc (Nat.le_refl _) _, by simp⟩
        go_enter Tryd.func11, Tryd.ntmps11
        go_wp2_with fail
        refine (ref_valid K A n c W _ hW).mono ?_
        rintro e w' ⟨rfl, rfl⟩
        rw [HV.out]
        go_upto_region 4 with fail
        generalize w'.alloc (.cells #[.int .i64 K, .slice none 0 0] 24) = X at hP0 ⊢
        go_wp2_with fail
        go_loopw [8] (fun v8 wr => ∃ (i : Nat) (C : Option Addr) (e : Nat), i ≤ n ∧ v8 = .int .i64 i ∧ PlnI w' wr K C i e (plainTo W R i)) (fun v8 _ => n - (intOf v8).toNat)
        case atStart => exact ⟨0, none, 0, Nat.zero_le _, rfl, hP0⟩
        case round =>
          obtain ⟨i, C, e, hi, rfl, hP⟩ := hrel
          clear hP0
          by_cases hlt : i < n
          · obtain ⟨ad, x, rfl, hx, hx1, hx2, hcx⟩ := (hW.below hP.old).at_ hlt
            obtain ⟨bd, r, rfl, hr, hr1, hr2, hcr⟩ := (hR.below hP.old).at_ (k := i) (by have := HMN.out; omega)
            have i0 : (0 : Int) ≤ (i : Int) := by omega
            have i1 : (i : Int) < (n : Int) := by omega
            have i2 : (i : Int) < (m : Int) := by have := HMN.out; omega
            have him : i < m := by omega
            have HOK := Lib.hid (ltok_pass (g := x) (r := r) ⟨hx1, hx2⟩ ⟨hr1, hr2⟩)
            have HPL := Lib.hid (show plainTo W R i ++ [lpass x r] = plainTo W R (i + 1) by
              show _ = plainTo W R i ++ [lpass (lat W i) (lat R i)]
              rw [lat_is hx.out, lat_is hr.out])
            have c1 : wr.cell? ⟨w'.heap.size, 1, none⟩ = some (.slice C i e) := (hP.bk.cell 1).trans rfl
            have hbl := fun w => buildL1 (lpass x r) w
            simp only [lpass] at hbl
            have f1 := hP.bk.frozen 1
            have HI30 := Lib.hid (show i + 1 ≤ 2932031007402 by have := HN30.out; omega)
            go_upto_region 7 with fail
            go_region_law (first
              | ((go_simp; go_at_call 35; refine (law_passE x r _).mono ?_; rintro e' wy ⟨rfl, hby⟩)
                 have hPy := hP.next (below_chain (Below.refl wr.heap.size wr).drew hby (Nat.le_refl _))
                 have u0 : wy.cell? ⟨w'.heap.size, 1, none⟩ = some (.slice C i e) := (hPy.bk.cell 1).trans rfl
                 have u3 : (wy.alloc (.cells #[.int .i64 1, .int .i64 x, .int .i64 r, .int .i64 0, .int .i64 0, .bool false] 46)).cell? ⟨w'.heap.size, 1, none⟩ = some (.slice C i e) := ((hPy.next ((Below.refl _ _).alloc (Nat.le_refl _) _)).bk.cell 1).trans rfl
                 have u1 : wy.cell? (ad.add i) = some (.int .i64 x) := (hW.below hPy.old).cellOf hlt hx.out
                 have u2 : wy.cell? (bd.add i) = some (.int .i64 r) := (hR.below hPy.old).cellOf him hr.out)
              | ((refine stepL (base := w'.heap.size + 1) (A := C) (n := i) (c := e) (L := plainTo W R i) (B := some ⟨wy.heap.size, 0, none⟩) (m := 1) (d := 1) (M := [lpass x r]) rfl (.tmp 38) (.tmp 48) (by rfl) (by rfl) (by rfl) (hPy.next ((Below.refl _ _).alloc (Nat.le_refl _) _)).own (lets_built (lpass x r) HOK.out wy) (i + 1) rfl HI30.out (by have := hPy.size; simp; omega) ?_)
                 intro A3 c3 w3 hown3 hg3 hl3
                 have kP := (hPy.next ((Below.refl _ _).alloc (Nat.le_refl _) _)).grown hg3 hown3
                 have r1 : w3.cell? ⟨w'.heap.size, 1, none⟩ = some (.slice C i e) := (kP.1.cell 1).trans rfl
                 have r2 : w3.frozen? ⟨w'.heap.size, 1, none⟩ = false := kP.1.frozen 1))
            all_goals
              have kQ := kP.2
              rw [HPL.out] at kQ
              clear r1 r2 c1 f1 hbl hcx hcr hP hPy u0 u1 u2 u3 kP hown3 hg3 hl3
              go_wp2_with fail
              go_roundw
              case rel => exact ⟨i + 1, A3, c3, by omega, by go_num, kQ⟩
              case measure => simp [intOf]; omega
          · have hin : i = n := by omega
            have i1 : ¬ (i : Int) < (n : Int) := by omega
            have hPn : PlnI w' wr K C n e (plainTo W R W.length) := by rw [HWn.out, ← hin]; exact hP
            have hci : i = n := hin
            clear hP
            rw [hin] at i1 ⊢
            have c0 : wr.cell? ⟨w'.heap.size, 0, none⟩ = some (.int .i64 K) := (hPn.bk.cell 0).trans rfl
            have c1 : wr.cell? ⟨w'.heap.size, 1, none⟩ = some (.slice C n e) := (hPn.bk.cell 1).trans rfl
            obtain ⟨E, hE⟩ : ∃ E, checkE K (plainTo W R W.length) = E := ⟨_, rfl⟩
            have HE := Lib.hid hE
            have HPC := Lib.hid (plain_check (R := R) HV.out (by rw [HWn.out, HRm.out]; exact HMN.out))
            clear hin hci hE
            go_wp2_with fail
            refine (code_Check K C n e _ _ hPn.own.lets).mono ?_
            rintro e1 w3 ⟨rfl, hb3⟩
            rw [HE.out]
            have hb4 := below_chain hPn.old hb3 hPn.old.size
            clear hPn c0 c1 hb3
            by_cases hz : E = 0
            · have z1 : (E == 0) = true := by simpa using hz
              have HDR := Lib.hid (HPC.out.1 (by rw [HE.out, hz]))
              clear hz
              go_wp2_with fail
              refine (ref_drawn A B n m c d W R _ (hW.below hb4) (hR.below hb4)).mono ?_
              rintro e2 w5 ⟨b, rfl, hbd, hd⟩
              obtain rfl : b = true := hbd.2 HDR.out
              have hb5 := below_chain hb4 (hd.below w3.heap.size) hb4.size
              clear hb4 hd hbd
              obtain ⟨rd, hrd⟩ : ∃ rd, redB W = rd := ⟨_, rfl⟩
              have HRD := Lib.hid hrd
              clear hrd
              go_wp2_with fail
              refine (ref_reduced A n c W _ (hW.below hb5)).mono ?_
              rintro e3 w6 ⟨rfl, hd⟩
              rw [HRD.out]
              have hb6 := below_chain hb5 (hd.below w5.heap.size) hb5.size
              clear hb5 hd
              cases rd with
              | false =>
                go_wp2_with fail
                refine (law_known _).mono ?_
                rintro e4 zz ⟨rfl, hb⟩
                go_wp2_with fail
                go_ret
                exact ⟨rfl, below_chain hb6 hb hb6.size⟩
              | true =>
                have hrs := ranks_some HRD.out HDR.out
                have HR0 := Lib.hid (errR_drawable HRD.out (drawable_of HDR.out))
                have HRS := Lib.hid hrs.2
                clear hrs
                go_wp2_with fail
                refine (line_Ranks n c A W _ (hW.below hb6)).mono ?_
                rintro e4 w7 ⟨A7, c7, rfl, hO7, hb7⟩
                rw [HR0.out, okL_yes rfl, ← HRS.out] at hO7
                have hln : (okL (errR W) (ranksL W)).length = R.length := by rw [HR0.out, okL_yes rfl, ← HRS.out]
                rw [hln, HR0.out]
                have hb8 := below_chain hb6 hb7 hb6.size
                clear hb6 hb7 hln
                go_wp2_with fail
                refine (ref_equal A7 B R.length m c7 d R R _ hO7.ints (hR.below hb8)).mono ?_
                rintro e5 w9 ⟨rfl, hd⟩
                have hb9 := below_chain hb8 (hd.below w7.heap.size) hb8.size
                have hrr : (R == R) = true := beq_self_eq_true R
                rw [hrr]
                go_wp2_with fail
                refine (law_known _).mono ?_
                rintro e6 zz ⟨rfl, hb⟩
                go_wp2_with fail
                go_ret
                exact ⟨rfl, below_chain hb9 hb hb9.size⟩
            · have z1 : (E == 0) = false := by simpa using hz
              have HDR := Lib.hid (show ¬ DrawnR W R from fun h => hz (by rw [← HE.out]; exact HPC.out.2 h))
              clear hz
              go_wp2_with fail
              refine (ref_drawn A B n m c d W R _ (hW.below hb4) (hR.below hb4)).mono ?_
              rintro e2 w5 ⟨b, rfl, hbd, hd⟩
              obtain rfl : b = false := by
                cases b with
                | false => rfl
                | true => exact absurd (hbd.1 rfl) HDR.out
              have hb5 := below_chain hb4 (hd.below w3.heap.size) hb4.size
              clear hb4 hd hbd
              go_wp2_with fail
              refine (law_known _).mono ?_
              rintro e4 zz ⟨rfl, hb⟩
              go_wp2_with fail
              go_ret
              exact ⟨rfl, below_chain hb5 hb hb5.size⟩
    · have q2 : ((m : Int) != (n : Int)) = true := by simp; omega
      clear h30 hmn
      go_enter Tryd.func11, Tryd.ntmps11
      go_wp2_with fail
      refine (law_known _).mono ?_
      rintro e zz ⟨rfl, hb⟩
      go_wp2_with fail
      go_ret
      exact ⟨rfl, hb⟩
end Go.Proofs.YtkjcmppaapbabaaDoor
