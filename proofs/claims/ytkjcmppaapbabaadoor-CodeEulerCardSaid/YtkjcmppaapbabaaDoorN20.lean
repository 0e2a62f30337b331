/-
  The law CodeEuler returns true and leaves what was there. Condition: the argument reads as a code.
-/
import Derived.Test.YtkjcmppaapbabaaDoorJN
import Derived.Test.YtkjcmppaapbabaaDoorJL
import Derived.Test.YtkjcmppaapbabaaDoorKD
import Derived.Test.YtkjcmppaapbabaaDoorJK
namespace Go.Proofs.YtkjcmppaapbabaaDoor
open Go.RowKit
theorem Fcs.at_ {w : World} {base : Nat} {A : Option Addr} {n c : Nat} {vs : List FV} {Fs : List Fc} (h : Fcs w base A n c vs Fs) {g o i : Nat} (hA : A = some ⟨g, o, none⟩) (hi : i < n) :
    ∃ v F, Fs[i]? = some F ∧ FcOk w base A v F ∧ w.cell? ⟨g, o + i * 5, none⟩ = some (.bool v.above) ∧ w.cell? ⟨g, o + i * 5 + 1, none⟩ = some (.slice v.dA v.dn v.dc) ∧ w.cell? ⟨g, o + i * 5 + 2, none⟩ = some (.slice v.pA v.pn v.pc) ∧ w.cell? ⟨g, o + i * 5 + 3, none⟩ = some (.slice v.fA v.fn v.fc) ∧ w.cell? ⟨g, o + i * 5 + 4, none⟩ = some (.bool v.outer) := by
  have hv : vs[i]? = some (vs[i]'(by rw [h.vlen]; exact hi)) := List.getElem?_eq_getElem _
  have hF : Fs[i]? = some (Fs[i]'(by rw [h.len]; exact hi)) := List.getElem?_eq_getElem _
  generalize vs[i]'(by rw [h.vlen]; exact hi) = v at hv
  generalize Fs[i]'(by rw [h.len]; exact hi) = F at hF
  have hr := h.row
  rw [hA] at hr
  have key : ∀ f (u : Value), f < 5 → (fvC v)[f]? = some u → w.cell? ⟨g, o + (i * 5 + f), none⟩ = some u := fun f u hf hu => hr.cell (by rw [flat_at fvC 5 fvC_len vs i f v hv hf]; exact hu)
  exact ⟨v, F, hF, h.each i v F hv hF, key 0 _ (by omega) rfl, key 1 _ (by omega) rfl, key 2 _ (by omega) rfl, key 3 _ (by omega) rfl, key 4 _ (by omega) rfl⟩
/-- What the loops keep. -/
structure EuI (W1 wr : World) (g N : Nat) (X : List Int) : Prop where
  old : Below W1.heap.size W1 wr
  row : OwnI wr W1.heap.size g N (cntL N X)
theorem EuI.next {W1 wr wx : World} {g N : Nat} {X : List Int} (h : EuI W1 wr g N X) (hb : Below wr.heap.size wr wx) : EuI W1 wx g N X :=
  ⟨below_chain h.old hb h.old.size, h.row.below hb h.row.lt⟩
theorem EuI.push {W1 wr : World} {g N x : Nat} {X : List Int} (h : EuI W1 wr g N X) : EuI W1 (wr.setCell ⟨g, x, none⟩ (.int .i64 (((X.count (x : Int) : Nat) : Int) + 1))) g N (X ++ [(x : Int)]) := by
  refine ⟨h.old.setCell (p := ⟨g, x, none⟩) h.row.base _, ?_⟩
  have := h.row.stored x (((X.count (x : Int) : Nat) : Int) + 1)
  rwa [cntL_push] at this
set_option maxRecDepth 100000 in
set_option maxHeartbeats 12800000 in
theorem codeEuler_any (K : Int) (A : Option Addr) (n c : Nat) (L : List Lt) (w : World) (hA : Lets w A n L) (_hc : n ≤ c) :
    Calls Tryd.prog 5 #[.agg #[.int .i64 K, .slice A n c]] w fun e w' => e = .returned (.bool true) ∧ Below w.heap.size w w' := by
  have hLn := Lib.hid hA.len
  have hbx := Boxed.refl w K A n c
  by_cases h60 : n ≤ 60
  · have hd : decide (n ≤ 60) = true := by simpa using h60
    have HD := Lib.hid hd
    clear hd
    obtain ⟨E, hE⟩ : ∃ E, checkE K L = E := ⟨_, rfl⟩
    have HE := Lib.hid hE
    clear hE
    by_cases hz : E = 0
    · subst hz
      have HSM := Lib.hid (tame_of_check HE.out)
      by_cases h0 : n = 0
      · have q0 : ((n : Int) == 0) = true := by simp; omega
        clear h0
        go_enter Tryd.func5, Tryd.ntmps5
        go_wp2_with fail
        generalize w.alloc (.cells #[.int .i64 K, .slice A n c] 24) = X at hbx ⊢
        have hbx0 := hbx
        clear hbx
        refine (law_small K A n c L _ (hA.below hbx0.below)).mono ?_
        rintro e w1 ⟨rfl, hb⟩
        rw [HD.out]
        have hbx1 := hbx0.more hb
        clear hbx0 hb
        have c0 := hbx1.c0
        have c1 := hbx1.c1
        go_wp2_with fail
        refine (ref_Check K A n c L _ (hA.below hbx1.below)).mono ?_
        rintro e w2 ⟨rfl, hb⟩
        rw [HE.out]
        clear c0 c1
        have hbx2 := hbx1.more hb
        clear hbx1 hb
        have c0 := hbx2.c0
        have c1 := hbx2.c1
        go_wp2_with fail
        refine (law_known _).mono ?_
        rintro e w3 ⟨rfl, hb⟩
        go_wp2_with fail
        go_ret
        exact ⟨rfl, (hbx2.more hb).below⟩
      · have q0 : ((n : Int) == 0) = false := by simp; omega
        have hn60 : n ≤ 60 := h60
        have hpos : 0 < L.length := by rw [hLn.out]; omega
        have hv := (check_parts HE.out).2.2.2.resolve_left (by omega)
        have hgd := good_of_valid hpos hv
        have hfl : flatB L = true := by unfold validB2 at hv; simp only [Bool.and_eq_true] at hv; exact hv.2
        have hKn : ∃ kn : Nat, K = (kn : Int) ∧ kn ≤ 40 := ⟨K.toNat, by have := (check_parts HE.out).1; omega, by have := (check_parts HE.out).2.1; omega⟩
        obtain ⟨kn, hkn, hkn40⟩ := hKn
        have hfl' := faces_len (K := K) hfl
        rw [hLn.out] at hfl'
        obtain ⟨P, hP⟩ : ∃ P : Nat, pN L n = P := ⟨_, rfl⟩
        obtain ⟨C, hC⟩ : ∃ C : Nat, cN L n / 2 = C := ⟨_, rfl⟩
        have hPn : P ≤ n := by rw [← hP]; exact pN_le L n
        have hCn : C ≤ n := by rw [← hC]; have := cN_le L n; omega
        rw [hP, hC] at hfl'
        have HFL := Lib.hid hfl'
        have HP := Lib.hid hP
        have HC := Lib.hid hC
        have HG := Lib.hid hgd
        have HF := Lib.hid hfl
        have hps := fun s => hgd.places_all hfl s
        have hfs := fun s => hgd.fingers_all hfl s
        have hos := fun s => hgd.outer_all hfl s
        have hax : (axL L).length = P := by rw [axL_len, hLn.out, hP]
        have hk2 : K.toNat = kn := by omega
        have HKN := Lib.hid hkn
        rw [hax, hk2] at hps
        rw [hk2] at hfs
        have hall1 : sumS (fun F => F.places.length) (facesL K L) (facesL K L).length = 1001 * (kn + P + 1) := by rw [sumS_all, hps, hps]; omega
        have hall2 : sumS (fun F => F.fingers.length) (facesL K L) (facesL K L).length = 1001 * kn := by rw [sumS_all, hfs, hfs]; omega
        have hall3 : sumS (fun F => if F.outer = true then 1 else 0) (facesL K L) (facesL K L).length = 1001 := by rw [sumS_all, hos, hos]
        have HA1 := Lib.hid hall1
        have HA2 := Lib.hid hall2
        have HA3 := Lib.hid hall3
        have HDN := Lib.hid (show (allD (facesL K L)).length = 2 * n by rw [hgd.alldn, hLn.out])
        have HLN2 := Lib.hid (show L.length = n from hLn.out)
        clear hv hgd hfl hkn hfl' hP hC hps hfs hos hax hk2 hall1 hall2 hall3 hpos h0
        go_enter Tryd.func5, Tryd.ntmps5
        go_wp2_with fail
        generalize w.alloc (.cells #[.int .i64 K, .slice A n c] 24) = X at hbx ⊢
        have hbx0 := hbx
        clear hbx
        refine (law_small K A n c L _ (hA.below hbx0.below)).mono ?_
        rintro e w1 ⟨rfl, hb⟩
        rw [HD.out]
        have hbx1 := hbx0.more hb
        clear hbx0 hb
        have c0 := hbx1.c0
        have c1 := hbx1.c1
        go_wp2_with fail
        refine (ref_Check K A n c L _ (hA.below hbx1.below)).mono ?_
        rintro e w2 ⟨rfl, hb⟩
        rw [HE.out]
        clear c0 c1
        have hbx2 := hbx1.more hb
        clear hbx1 hb
        have c0 := hbx2.c0
        have c1 := hbx2.c1
        go_wp2_with fail
        clear c0 c1
        refine (code_Faces K A n c L _ (hA.below hbx2.below)).mono ?_
        rintro e w3 ⟨fA, nf, fc, vs, rfl, hb, hfc, _⟩
        rw [HE.out]
        have hFc := hfc HE.out
        have hnf : nf = P + C + 2 := by rw [← hFc.len, HFL.out]
        clear hfc
        have hbx3 := hbx2.more hb
        clear hbx2 hb
        obtain ⟨gf, of, rfl, _, _⟩ := hFc.row.form (by omega)
        have hnfI : ((nf : Int) != (P : Int) + (C : Int) + 2) = false := by simp; omega
        have v1 : IntKind.i64.wrap ((P : Int) + (C : Int)) = (P : Int) + (C : Int) := IntWalk.i64_in _ (by omega)
        have v2 : IntKind.i64.wrap ((P : Int) + (C : Int) + 2) = (P : Int) + (C : Int) + 2 := IntWalk.i64_in _ (by omega)
        have HNF := Lib.hid hnf
        have hnfb : nf ≤ 1000 := by omega
        clear hnf
        have c0 := hbx3.c0
        have c1 := hbx3.c1
        have KP := Lib.hid (show ∀ wx, Below w3.heap.size w3 wx → Below w3.heap.size w3 wx ∧ wx.cell? ⟨w.heap.size, 0, none⟩ = some (.int .i64 K) ∧ wx.cell? ⟨w.heap.size, 1, none⟩ = some (.slice A n c) from fun wx h => ⟨h, (hbx3.more h).c0, (hbx3.more h).c1⟩)
        have hpa := fun wx (h : Below w3.heap.size w3 wx) => code_Passes K A n c L wx (hA.below (hbx3.more h).below)
        have hcr := fun wx (h : Below w3.heap.size w3 wx) => code_Crossings K A n c L wx (hA.below (hbx3.more h).below)
        rw [HP.out] at hpa
        rw [HC.out] at hcr
        have HPA := Lib.hid hpa
        have HCR := Lib.hid hcr
        clear hpa hcr
        go_upto_region 4 with fail
        go_cut [47] (fun v47 wz => v47 = .bool false ∧ Below w3.heap.size w3 wz)
        case first =>
          first
            | go_region_held3 (fun wx => Below w3.heap.size w3 wx ∧ wx.cell? ⟨w.heap.size, 0, none⟩ = some (.int .i64 K) ∧ wx.cell? ⟨w.heap.size, 1, none⟩ = some (.slice A n c)) (first | assumption | exact KP.out _ (Below.refl _ _).drew | exact KP.out _ (below_chain (And.left (by assumption)) (by assumption) (Below.size (And.left (by assumption)))))
                (first
                  | ((go_at_call 27; refine (HPA.out _ (And.left (by assumption))).mono ?_; rintro e y1 ⟨rfl, hy1⟩))
                  | ((go_at_call 29; refine (HCR.out _ (And.left (by assumption))).mono ?_; rintro e y2 ⟨rfl, hy2⟩)))
            | fail
          all_goals
            have hbf := And.left (show Below w3.heap.size w3 _ ∧ _ by assumption)
            go_wp2_with fail
            go_meet
          all_goals exact ⟨rfl, hbf⟩
        case rest =>
          obtain ⟨rfl, hb⟩ := hcut
          clear c0 c1 KP HPA HCR v1 v2 hnfI
          replace hFc := hFc.below hb
          have hbx4 := hbx3.more hb
          clear hbx3 hb
          have HBX := Lib.hid hbx4
          have HBXS := Lib.hid hbx4.size
          have c1 := HBX.out.c1
          have hnle : 2 * n ≤ 17592186044416 := by omega
          go_wp2_with (at_make; refine makeIW rfl _ _ rfl (2 * n) _ rfl rfl (by omega) hnle (Nat.le_refl _) ?_; intro W2 hO2 hb2 hz2)
          clear hnle c1
          have hE0 : EuI wc W2 wc.heap.size (2 * n) (dTo (facesL K L) 0) := ⟨hb2, by
            have := cntL_nil (2 * n)
            show OwnI W2 wc.heap.size wc.heap.size (2 * n) (cntL (2 * n) [])
            rw [this]; exact hO2⟩
          have HFC := Lib.hid hFc
          clear hO2 hb2 hz2 hFc
          obtain ⟨Fs, hFs⟩ : ∃ Fs, facesL K L = Fs := ⟨_, rfl⟩
          have HFS := Lib.hid hFs
          rw [hFs] at hE0 HFC HDN HA1 HA2 HA3
          clear hFs
          obtain ⟨s1, hs1⟩ : ∃ s1 : Nat → Nat, sumS (fun F => F.places.length) Fs = s1 := ⟨_, rfl⟩
          obtain ⟨s2, hs2⟩ : ∃ s2 : Nat → Nat, sumS (fun F => F.fingers.length) Fs = s2 := ⟨_, rfl⟩
          obtain ⟨s3, hs3⟩ : ∃ s3 : Nat → Nat, sumS (fun F => if F.outer = true then 1 else 0) Fs = s3 := ⟨_, rfl⟩
          have HS1 := Lib.hid (show ∀ i F, Fs[i]? = some F → s1 (i + 1) = s1 i + sdW F * F.places.length from fun i F h => by rw [← hs1]; exact sumS_succ h)
          have HS2 := Lib.hid (show ∀ i F, Fs[i]? = some F → s2 (i + 1) = s2 i + sdW F * F.fingers.length from fun i F h => by rw [← hs2]; exact sumS_succ h)
          have HS3 := Lib.hid (show ∀ i F, Fs[i]? = some F → s3 (i + 1) = s3 i + sdW F * (if F.outer = true then 1 else 0) from fun i F h => by rw [← hs3]; exact sumS_succ h)
          have HB1 := Lib.hid (show ∀ i, s1 i ≤ 1001 * (kn + P + 1) from fun i => by rw [← hs1, ← HA1.out]; exact sumS_le)
          have HB2 := Lib.hid (show ∀ i, s2 i ≤ 1001 * kn from fun i => by rw [← hs2, ← HA2.out]; exact sumS_le)
          have HB3 := Lib.hid (show ∀ i, s3 i ≤ 1001 from fun i => by rw [← hs3, ← HA3.out]; exact sumS_le)
          have hnfl : Fs.length = nf := HFC.out.len
          have HT1 := Lib.hid (show s1 nf = 1001 * (kn + P + 1) by rw [← hnfl, ← hs1]; exact HA1.out)
          have HT2 := Lib.hid (show s2 nf = 1001 * kn by rw [← hnfl, ← hs2]; exact HA2.out)
          have HT3 := Lib.hid (show s3 nf = 1001 by rw [← hnfl, ← hs3]; exact HA3.out)
          have HZ1 := Lib.hid (show s1 0 = 0 by rw [← hs1]; exact sumS_zero _ _)
          have HZ2 := Lib.hid (show s2 0 = 0 by rw [← hs2]; exact sumS_zero _ _)
          have HZ3 := Lib.hid (show s3 0 = 0 by rw [← hs3]; exact sumS_zero _ _)
          have HNFL := Lib.hid hnfl
          clear hs1 hs2 hs3 HA1 HA2 HA3 hnfl
          have hgf : gf < wc.heap.size := (HFC.out.row.lt gf rfl).2
          go_loopw [6, 7, 8, 9, 10, 11, 12] (fun v6 v7 v8 v9 _ _ _ wr => ∃ i : Nat, i ≤ nf ∧ v9 = .int .i64 i ∧ v6 = .int .i64 (s1 i : Nat) ∧ v7 = .int .i64 (s2 i : Nat) ∧ v8 = .int .i64 (s3 i : Nat) ∧ EuI wc wr wc.heap.size (2 * n) (dTo Fs i)) (fun _ _ _ v9 _ _ _ _ => nf - (intOf v9).toNat)
          case atStart => exact ⟨0, by omega, rfl, by rw [HZ1.out]; rfl, by rw [HZ2.out]; rfl, by rw [HZ3.out]; rfl, hE0⟩
          case round =>
            obtain ⟨i, hi, rfl, rfl, rfl, rfl, hE⟩ := hrel
            clear hE0
            by_cases hlt : i < nf
            · obtain ⟨v, F, hFi, hOk, f0, f1, f2, f3, f4⟩ := HFC.out.at_ rfl hlt
              have i0 : (0 : Int) ≤ (i : Int) := by omega
              have i1 : (i : Int) < (nf : Int) := by omega
              have hFi' : (facesL K L)[i]? = some F := by rw [HFS.out]; exact hFi
              obtain ⟨Dn, hDd, hDne, hDall⟩ := HG.out.face_darts HF.out (List.mem_of_getElem? hFi')
              have hdlen : (dTo Fs i ++ F.darts).length ≤ 2 * n := by rw [← dTo_succ hFi, ← HDN.out]; exact dTo_le _ _
              have hdl2 : F.darts.length = Dn.length := by rw [hDd]; unfold nI; simp
              have hdn0 := hOk.darts.len
              have hdnb : v.dn ≤ 1000 := by rw [List.length_append] at hdlen; omega
              have hdp : 0 < v.dn := by rw [← hdn0, hdl2]; cases Dn with | nil => exact absurd rfl hDne | cons a r => simp
              obtain ⟨gd, hgd, _, hgdl⟩ := hOk.darts.form hdp
              have hOd := hOk.darts
              have hpn := hOk.places.len
              have hfn := hOk.fingers.len
              have hab := hOk.above
              have hou := hOk.outer
              clear hOk
              obtain ⟨vab, vdA, dn, dc, pA, pn, pc, fA', fn, fcc, vou⟩ := v
              simp only at f0 f1 f2 f3 f4 hdn0 hdnb hdp hgd hgdl hOd hpn hfn hab hou
              subst hgd
              have HFI := Lib.hid hFi
              have HAB := Lib.hid hab
              have HOU := Lib.hid hou
              have HPN := Lib.hid hpn
              have HFN := Lib.hid hfn
              have HDD := Lib.hid hDd
              have HDALL := Lib.hid hDall
              have HDLEN := Lib.hid hdlen
              have HDN0 := Lib.hid hdn0
              have HX := Lib.hid (show ∀ k, k < dn → ∃ t : Nat, F.darts[k]? = some (t : Int) ∧ t ∈ Dn from fun k hk => by
                have hkl : k < Dn.length := by rw [← hdl2, hdn0]; exact hk
                refine ⟨Dn[k], ?_, List.getElem_mem _⟩
                rw [hDd]; unfold nI; rw [List.getElem?_map, List.getElem?_eq_getElem hkl]; rfl)
              have hx0 : F.darts[0]? = some ((xat Dn 0 : Nat) : Int) := by
                have hkl : 0 < Dn.length := by rw [← hdl2, hdn0]; exact hdp
                rw [hDd]; unfold nI xat; rw [List.getElem?_map, List.getElem?_eq_getElem hkl]; rfl
              obtain ⟨z, hz0⟩ : ∃ z, xat Dn 0 = z := ⟨_, rfl⟩
              rw [hz0] at hx0
              have HX0 := Lib.hid hx0
              have HZ0 := Lib.hid hz0
              have hlo := hE.old.size
              have hrl := hE.row.lt
              have g0 := (hE.old.cell (p := ⟨gf, of + i * 5, none⟩) hgf).trans f0
              have g1 := (hE.old.cell (p := ⟨gf, of + i * 5 + 1, none⟩) hgf).trans f1
              have g2 := (hE.old.cell (p := ⟨gf, of + i * 5 + 2, none⟩) hgf).trans f2
              have g3 := (hE.old.cell (p := ⟨gf, of + i * 5 + 3, none⟩) hgf).trans f3
              have g4 := (hE.old.cell (p := ⟨gf, of + i * 5 + 4, none⟩) hgf).trans f4
              clear hFi hFi' hab hou hpn hfn hDd hDall hdlen hdl2 hDne hdn0 hx0 hz0 f0 f1 f2 f3 f4
              obtain ⟨wo, rfl⟩ : ∃ wo : World, wo = wr := ⟨_, rfl⟩
              go_upto_region 12 with fail
              have hEx := hE.next ((Below.refl _ _).alloc (Nat.le_refl _) (.cells #[.bool vab, .slice (some ⟨gd, 0, none⟩) dn dc, .slice pA pn pc, .slice fA' fn fcc, .bool vou] 38))
              have hBX := Blk.new wo 38 #[.bool vab, .slice (some ⟨gd, 0, none⟩) dn dc, .slice pA pn pc, .slice fA' fn fcc, .bool vou]
              generalize wo.alloc (.cells #[.bool vab, .slice (some ⟨gd, 0, none⟩) dn dc, .slice pA pn pc, .slice fA' fn fcc, .bool vou] 38) = Wx at hEx hBX ⊢
              clear g0 g1 g2 g3 g4 hE
              go_wp2_with fail
              go_loopw [11] (fun v11 wr => ∃ k : Nat, k ≤ dn ∧ v11 = .int .i64 k ∧ EuI wc wr wc.heap.size (2 * n) (dTo Fs i ++ F.darts.take k) ∧ Blk wr wo.heap.size 38 #[.bool vab, .slice (some ⟨gd, 0, none⟩) dn dc, .slice pA pn pc, .slice fA' fn fcc, .bool vou]) (fun v11 _ => dn - (intOf v11).toNat)
              case atStart => exact ⟨0, by omega, rfl, by rw [List.take_zero, List.append_nil]; exact hEx, hBX⟩
              case round =>
                obtain ⟨k, hk, rfl, hEk, hBk⟩ := hrel
                clear hEx hBX
                have b0 : wr.cell? ⟨wo.heap.size, 0, none⟩ = some (.bool vab) := (hBk.cell 0).trans rfl
                have b1 : wr.cell? ⟨wo.heap.size, 1, none⟩ = some (.slice (some ⟨gd, 0, none⟩) dn dc) := (hBk.cell 1).trans rfl
                have b2 : wr.cell? ⟨wo.heap.size, 2, none⟩ = some (.slice pA pn pc) := (hBk.cell 2).trans rfl
                have b3 : wr.cell? ⟨wo.heap.size, 3, none⟩ = some (.slice fA' fn fcc) := (hBk.cell 3).trans rfl
                have b4 : wr.cell? ⟨wo.heap.size, 4, none⟩ = some (.bool vou) := (hBk.cell 4).trans rfl
                have hOr := hOd.below hEk.old
                have e0 : wr.cell? ⟨gd, 0, none⟩ = some (.int .i64 (z : Int)) := hOr.cell HX0.out
                by_cases hlk : k < dn
                · obtain ⟨t, ht, htm⟩ := HX.out k hlk
                  have e1 : wr.cell? ⟨gd, k, none⟩ = some (.int .i64 (t : Int)) := hOr.cell ht
                  obtain ⟨ha1, ha2, ha3⟩ := HDALL.out t htm
                  rw [HZ0.out] at ha1
                  rw [HLN2.out] at ha2
                  have k0 : (0 : Int) ≤ (k : Int) := by omega
                  have k1 : (k : Int) < (dn : Int) := by omega
                  have t0 : decide ((t : Int) < 0) = false := by simp
                  have t0' : ¬ (t : Int) < 0 := by omega
                  have t1 : decide (((2 * n : Nat) : Int) ≤ (t : Int)) = false := by simp; omega
                  have t1' : decide (2 * (n : Int) ≤ (t : Int)) = false := by simp; omega
                  have t1'' : ¬ 2 * (n : Int) ≤ (t : Int) := by omega
                  have t2 : decide ((t : Int) < (z : Int)) = false := by simp; omega
                  have t2' : ¬ (t : Int) < (z : Int) := by omega
                  have t3 : (0 : Int) ≤ (t : Int) := by omega
                  have t4 : (t : Int) < 2 * (n : Int) := by omega
                  have HT := Lib.hid ht
                  have HA3 := Lib.hid ha3
                  have hXl : (dTo Fs i ++ F.darts.take k).length ≤ 2 * n := by
                    have := HDLEN.out
                    rw [List.length_append] at this ⊢
                    rw [List.length_take]; omega
                  have hcl : (dTo Fs i ++ F.darts.take k).count (t : Int) ≤ 2 * n := Nat.le_trans List.count_le_length hXl
                  obtain ⟨m, hm⟩ : ∃ m : Nat, (dTo Fs i ++ F.darts.take k).count (t : Int) = m := ⟨_, rfl⟩
                  have HM := Lib.hid hm
                  rw [hm] at hcl
                  clear ht ha3 hXl htm hm
                  go_wp2_with fail
                  go_quiet (fail)
                  go_upto_region 17 with fail
                  have hEq := hEk.next (below_drewN (Below.refl _ _) nq)
                  have hBq := hBk.below (below_drewN (Below.refl wr.heap.size wr) nq) hBk.lt
                  generalize wr.drewN nq = Wq at hEq hBq ⊢
                  clear b0 b1 b2 b3 b4 e0 e1 hEk hBk hOr t0 t1 t1' t2 t0' t1'' t2'
                  have b1 : Wq.cell? ⟨wo.heap.size, 1, none⟩ = some (.slice (some ⟨gd, 0, none⟩) dn dc) := (hBq.cell 1).trans rfl
                  have hOq := hOd.below hEq.old
                  have e1 : Wq.cell? ⟨gd, k, none⟩ = some (.int .i64 (t : Int)) := hOq.cell HT.out
                  have e2 : Wq.cell? ⟨wc.heap.size, t, none⟩ = some (.int .i64 (m : Int)) := hEq.row.cell (by rw [cntL_at (by omega), HM.out])
                  have e3 := hEq.row.frozen t
                  have hEp := hEq.push (x := t)
                  rw [HM.out] at hEp
                  have hBp := hBq.far (p := ⟨wc.heap.size, t, none⟩) (by simp; omega) (.int .i64 ((m : Int) + 1))
                  have vmw : IntKind.i64.wrap ((m : Int) + 1) = (m : Int) + 1 := IntWalk.i64_in _ (by omega)
                  have HTK := Lib.hid (show dTo Fs i ++ F.darts.take k ++ [(t : Int)] = dTo Fs i ++ F.darts.take (k + 1) by rw [List.append_assoc, List.take_add_one, HT.out]; rfl)
                  rw [HTK.out] at hEp
                  clear hEq hBq hOq
                  go_upto_region 18 with fail
                  generalize Wq.setCell ⟨wc.heap.size, t, none⟩ (.int .i64 ((m : Int) + 1)) = Wp at hEp hBp ⊢
                  clear b1 e1 e2 e3 vmw
                  obtain ⟨ev, hev⟩ : ∃ ev : Nat, t / 2 = ev := ⟨_, rfl⟩
                  have hdiv : (t : Int) / 2 = (ev : Int) := by omega
                  have htdv : (t : Int).tdiv 2 = (ev : Int) := by rw [Int.tdiv_eq_ediv_of_nonneg (by omega)]; exact hdiv
                  have vev : IntKind.i64.wrap (ev : Int) = (ev : Int) := IntWalk.i64_in _ (by omega)
                  have hevn : ev < n := by omega
                  have hbl := fun wx (h : Lets wx A n L) => ref_Below K ev A n c L wx h hevn
                  rw [← hev, HA3.out, ← HAB.out] at hbl
                  rw [hev] at hbl
                  have HBL := Lib.hid hbl
                  have hnv : ((!vab) == vab) = false := by cases vab <;> rfl
                  have hbxp := HBX.out.moreB hEp.old HBXS.out
                  have HLT := Lib.hid (show ∀ wx, Below Wp.heap.size Wp wx → Lets wx A n L from fun wx h => hA.below (hbxp.more h).below)
                  have hOp := hOd.below hEp.old
                  have KP := Lib.hid (show ∀ wx, Below Wp.heap.size Wp wx → Below Wp.heap.size Wp wx ∧ wx.cell? ⟨w.heap.size, 0, none⟩ = some (.int .i64 K) ∧ wx.cell? ⟨w.heap.size, 1, none⟩ = some (.slice A n c) ∧ wx.cell? ⟨wo.heap.size, 0, none⟩ = some (.bool vab) ∧ wx.cell? ⟨wo.heap.size, 1, none⟩ = some (.slice (some ⟨gd, 0, none⟩) dn dc) ∧ wx.cell? ⟨gd, k, none⟩ = some (.int .i64 (t : Int)) from fun wx h =>
                    ⟨h, (hbxp.more h).c0, (hbxp.more h).c1, ((hBp.below h hBp.lt).cell 0).trans rfl, ((hBp.below h hBp.lt).cell 1).trans rfl, (hOp.below h).cell HT.out⟩)
                  clear hbl hOp hbxp hev
                  first
                    | go_region_held3 (fun wx => Below Wp.heap.size Wp wx ∧ wx.cell? ⟨w.heap.size, 0, none⟩ = some (.int .i64 K) ∧ wx.cell? ⟨w.heap.size, 1, none⟩ = some (.slice A n c) ∧ wx.cell? ⟨wo.heap.size, 0, none⟩ = some (.bool vab) ∧ wx.cell? ⟨wo.heap.size, 1, none⟩ = some (.slice (some ⟨gd, 0, none⟩) dn dc) ∧ wx.cell? ⟨gd, k, none⟩ = some (.int .i64 (t : Int))) (first | assumption | exact KP.out _ (Below.refl _ _).drew | exact KP.out _ (below_chain (And.left (by assumption)) (by assumption) (Below.size (And.left (by assumption)))))
                        ((go_at_call 31; refine (HBL.out _ (HLT.out _ (And.left (by assumption)))).mono ?_; rintro e y1 ⟨rfl, hy1⟩))
                    | fail
                  all_goals
                    have hbf := And.left (show Below Wp.heap.size Wp _ ∧ _ by assumption)
                    have hEf := hEp.next hbf
                    have hBf := hBp.below hbf hBp.lt
                    clear KP HLT HBL hEp hBp
                    go_wp2_with fail
                    go_roundw
                    case rel => exact ⟨k + 1, by omega, by go_num, hEf, hBf⟩
                    case measure => simp [intOf]; omega
                · have hkd : k = dn := by omega
                  have k1 : ¬ (k : Int) < (dn : Int) := by omega
                  have hEe : EuI wc wr wc.heap.size (2 * n) (dTo Fs (i + 1)) := by
                    rw [dTo_succ HFI.out]
                    have : F.darts.take k = F.darts := List.take_of_length_le (by rw [HDN0.out]; omega)
                    rw [← this]; exact hEk
                  have d0 : ((dn : Int) == 0) = false := by simp; omega
                  clear hEk hkd
                  go_upto_region 20 with fail
                  go_cut [141] (fun v141 wz => ∃ q, v141 = .bool false ∧ wz = wr.drewN q)
                  case first =>
                    by_cases hi0 : i = 0
                    · have p0 : decide ((0 : Int) < (i : Int)) = false := by simp; omega
                      have p0n : decide (0 < i) = false := by simp; omega
                      have p0m : ¬ 0 < i := by omega
                      have p0' : decide ((i : Int) > 0) = false := p0
                      clear hi0
                      go_quiet (fail)
                      go_wp2_with fail
                      go_meet
                      case rel => exact ⟨_, rfl, rfl⟩
                    · obtain ⟨j, hj⟩ : ∃ j, i = j + 1 := ⟨i - 1, by omega⟩
                      have hjlt : j < nf := by omega
                      obtain ⟨v', F', hFj, hOk', h0, h1, _, _, _⟩ := HFC.out.at_ rfl hjlt
                      have hFj' : (facesL K L)[j]? = some F' := by rw [HFS.out]; exact hFj
                      have hFi' : (facesL K L)[j + 1]? = some F := by rw [HFS.out, ← hj]; exact HFI.out
                      obtain ⟨Dn', hDd', hDne', _⟩ := HG.out.face_darts HF.out (List.mem_of_getElem? hFj')
                      have hl' : 0 < Dn'.length := by cases Dn' with | nil => exact absurd rfl hDne' | cons a r => simp
                      have hx' : F'.darts[0]? = some ((xat Dn' 0 : Nat) : Int) := by rw [hDd']; unfold nI xat; rw [List.getElem?_map, List.getElem?_eq_getElem hl']; rfl
                      have hlt' := HG.out.heads hFj' hFi' hx' HX0.out
                      have hdn' := hOk'.darts.len
                      have hdp' : 0 < v'.dn := by rw [← hdn', hDd']; unfold nI; simpa using hl'
                      obtain ⟨gd', hgd', _, _⟩ := hOk'.darts.form hdp'
                      have hOd' := hOk'.darts.below hEe.old
                      rw [hgd'] at h1 hOd'
                      have c1 := (hEe.old.cell (p := ⟨gf, of + j * 5 + 1, none⟩) hgf).trans h1
                      obtain ⟨z', hz'⟩ : ∃ z', xat Dn' 0 = z' := ⟨_, rfl⟩
                      rw [hz'] at hx' hlt'
                      have c2 : wr.cell? ⟨gd', 0, none⟩ = some (.int .i64 (z' : Int)) := hOd'.cell hx'
                      have p0 : decide ((0 : Int) < (i : Int)) = true := by simp; omega
                      have p0n : decide (0 < i) = true := by simp; omega
                      have p0m : 0 < i := by omega
                      have p0' : decide ((i : Int) > 0) = true := p0
                      have p1 : decide ((z : Int) ≤ (z' : Int)) = false := by simp; omega
                      have p1' : ¬ (z : Int) ≤ (z' : Int) := by omega
                      have p2 : (0 : Int) < (v'.dn : Int) := by omega
                      have p3 : (i : Int) - 1 = (j : Int) := by omega
                      have p4 : IntKind.i64.wrap ((i : Int) - 1) = (j : Int) := by rw [p3]; exact IntWalk.i64_in _ (by omega)
                      have p5 : IntKind.i64.wrap (j : Int) = (j : Int) := IntWalk.i64_in _ (by omega)
                      have p6 : (0 : Int) ≤ (j : Int) := by omega
                      have p7 : (j : Int) < (nf : Int) := by omega
                      have p8 : (0 : Int) < (dn : Int) := by omega
                      obtain ⟨dn', hdnE⟩ : ∃ dn', v'.dn = dn' := ⟨_, rfl⟩
                      obtain ⟨dc', hdcE⟩ : ∃ dc', v'.dc = dc' := ⟨_, rfl⟩
                      rw [hdnE, hdcE] at c1
                      rw [hdnE] at p2
                      clear hi0 hj hFj hOk' h0 h1 hFj' hFi' hDd' hDne' hx' hlt' hdn' hdp' hgd' hOd' hz' hdnE hdcE
                      go_quiet (fail)
                      go_wp2_with fail
                      go_meet
                      case rel => exact ⟨_, rfl, rfl⟩
                  case rest =>
                    obtain ⟨q, rfl, rfl⟩ := hcut
                    have hEr := hEe.next (below_drewN (Below.refl _ _) q)
                    have hBr := hBk.below (below_drewN (Below.refl wr.heap.size wr) q) hBk.lt
                    generalize wr.drewN q = Wr at hEr hBr ⊢
                    clear b0 b1 b2 b3 b4 e0 hOr hEe hBk d0
                    have b0 : Wr.cell? ⟨wo.heap.size, 0, none⟩ = some (.bool vab) := (hBr.cell 0).trans rfl
                    have b2 : Wr.cell? ⟨wo.heap.size, 2, none⟩ = some (.slice pA pn pc) := (hBr.cell 2).trans rfl
                    have b3 : Wr.cell? ⟨wo.heap.size, 3, none⟩ = some (.slice fA' fn fcc) := (hBr.cell 3).trans rfl
                    have b4 : Wr.cell? ⟨wo.heap.size, 4, none⟩ = some (.bool vou) := (hBr.cell 4).trans rfl
                    have hs1 := HS1.out i F HFI.out
                    have hs2 := HS2.out i F HFI.out
                    have hs3 := HS3.out i F HFI.out
                    rw [HPN.out] at hs1
                    rw [HFN.out] at hs2
                    rw [← HOU.out] at hs3
                    have hb1 := HB1.out (i + 1)
                    have hb2 := HB2.out (i + 1)
                    have hb3 := HB3.out (i + 1)
                    unfold sdW at hs1 hs2 hs3
                    rw [← HAB.out] at hs1 hs2 hs3
                    cases vab <;> cases vou
                    all_goals
                      simp only [if_true, if_false, Bool.false_eq_true, Nat.mul_one, Nat.mul_zero, Nat.one_mul, Nat.add_zero] at hs1 hs2 hs3
                      have hy1 : s1 i ≤ 200000 := by omega
                      have hy2 : s2 i ≤ 200000 := by omega
                      have hy3 : s3 i ≤ 200000 := by omega
                      have hy4 : pn ≤ 200000 := by omega
                      have hy5 : fn ≤ 200000 := by omega
                      have H1 := Lib.hid hs1
                      have H2 := Lib.hid hs2
                      have H3 := Lib.hid hs3
                      clear hs1 hs2 hs3 hb1 hb2 hb3
                      go_wp2_with fail
                      go_roundw
                      case rel => exact ⟨i + 1, by omega, by go_num, by rw [H1.out]; try go_num, by rw [H2.out]; try go_num, by rw [H3.out]; try go_num, hEr⟩
                      case measure => simp [intOf]; omega
            · have hin : i = nf := by omega
              have i1 : ¬ (i : Int) < (nf : Int) := by omega
              obtain ⟨a1, ha1⟩ : ∃ a1, s1 i = a1 := ⟨_, rfl⟩
              obtain ⟨a2, ha2⟩ : ∃ a2, s2 i = a2 := ⟨_, rfl⟩
              obtain ⟨a3, ha3⟩ : ∃ a3, s3 i = a3 := ⟨_, rfl⟩
              rw [ha1, ha2, ha3]
              rw [hin] at ha1 ha2 ha3
              rw [HT1.out] at ha1
              rw [HT2.out] at ha2
              rw [HT3.out] at ha3
              have hx1 : ((a1 : Int) == 1001 * ((P : Int) + K + 1)) = true := by have := HKN.out; simp; omega
              have hx2 : ((a2 : Int) == 1001 * K) = true := by have := HKN.out; simp; omega
              have hx3 : ((a3 : Int) == 1001) = true := by simp; omega
              have HX1 := Lib.hid hx1
              have HX2 := Lib.hid hx2
              have HX3 := Lib.hid hx3
              have hE9 : EuI wc wr wc.heap.size (2 * n) (allD Fs) := by rw [← dTo_all, HNFL.out, ← hin]; exact hE
              clear hE hx1 hx2 hx3 ha1 ha2 ha3 hin
              go_wp2_with fail
              go_loop [13] (fun v13 => ∃ d : Nat, d ≤ 2 * n ∧ v13 = .int .i64 d) (fun v13 => 2 * n - (intOf v13).toNat)
              case atStart => exact ⟨0, by omega, rfl⟩
              case round =>
                obtain ⟨d, hd, rfl⟩ := hrel
                by_cases hdl : d < 2 * n
                · have hc1 := HG.out.dart_count (d := d) (by rw [HLN2.out]; exact hdl)
                  rw [HFS.out] at hc1
                  have e1 : wr.cell? ⟨wc.heap.size, d, none⟩ = some (.int .i64 1) := hE9.row.cell (by rw [cntL_at hdl, hc1]; rfl)
                  have d0 : (0 : Int) ≤ (d : Int) := by omega
                  have d1 : (d : Int) < 2 * (n : Int) := by omega
                  have d2 : (d : Int) < ((2 * n : Nat) : Int) := by omega
                  clear hc1
                  go_wp2_with fail
                  go_round
                  case rel => exact ⟨d + 1, by omega, by go_num⟩
                  case measure => simp [intOf]; omega
                · have d1 : ¬ (d : Int) < 2 * (n : Int) := by omega
                  have d2 : ¬ (d : Int) < ((2 * n : Nat) : Int) := by omega
                  have hbxp := HBX.out.moreB hE9.old HBXS.out
                  have c0 := hbxp.c0
                  have c1 := hbxp.c1
                  have hk0 : 0 ≤ K := (check_parts HE.out).1
                  have hk1 : K ≤ 40 := (check_parts HE.out).2.1
                  have hpa := fun wx (h : Below wr.heap.size wr wx) => ref_Passes K A n c L wx (hA.below (hbxp.more h).below)
                  rw [HP.out] at hpa
                  have HPA := Lib.hid hpa
                  have HBW := Lib.hid hbxp
                  have KP := Lib.hid (show ∀ wx, Below wr.heap.size wr wx → Below wr.heap.size wr wx ∧ wx.cell? ⟨w.heap.size, 0, none⟩ = some (.int .i64 K) ∧ wx.cell? ⟨w.heap.size, 1, none⟩ = some (.slice A n c) from fun wx h => ⟨h, (hbxp.more h).c0, (hbxp.more h).c1⟩)
                  clear hpa hE9
                  go_upto_region 34 with fail
                  go_cut [14] (fun v14 wz => v14 = .int .i64 ((P : Int) + K + 1) ∧ Below wr.heap.size wr wz)
                  case first =>
                    have v1 : IntKind.i64.wrap ((P : Int) + K) = (P : Int) + K := IntWalk.i64_in _ (by omega)
                    have v2 : IntKind.i64.wrap ((P : Int) + K + 1) = (P : Int) + K + 1 := IntWalk.i64_in _ (by omega)
                    first
                      | go_region_held3 (fun wx => Below wr.heap.size wr wx ∧ wx.cell? ⟨w.heap.size, 0, none⟩ = some (.int .i64 K) ∧ wx.cell? ⟨w.heap.size, 1, none⟩ = some (.slice A n c)) (first | assumption | exact KP.out _ (Below.refl _ _).drew | exact KP.out _ (below_chain (And.left (by assumption)) (by assumption) (Below.size (And.left (by assumption)))))
                          ((go_at_call 28; refine (HPA.out _ (And.left (by assumption))).mono ?_; rintro e y1 ⟨rfl, hy1⟩))
                      | fail
                    all_goals
                      have hbf := And.left (show Below wr.heap.size wr _ ∧ _ by assumption)
                      go_wp2_with fail
                      go_meet
                    all_goals exact ⟨rfl, hbf⟩
                  case rest =>
                    obtain ⟨rfl, hb⟩ := hcut
                    clear c0 c1 KP HPA
                    have hbx9 := hbxp.more hb
                    have c0 := hbx9.c0
                    have x1 := HX1.out
                    have x2 := HX2.out
                    have x3 := HX3.out
                    have v1 : IntKind.i64.wrap (1001 * ((P : Int) + K + 1)) = 1001 * ((P : Int) + K + 1) := IntWalk.i64_in _ (by omega)
                    have v2 : IntKind.i64.wrap (1001 * K) = 1001 * K := IntWalk.i64_in _ (by omega)
                    go_wp2_with fail
                    refine (law_known _).mono ?_
                    rintro e zz ⟨rfl, hb3⟩
                    go_wp2_with fail
                    go_ret
                    exact ⟨rfl, (hbx9.more hb3).below⟩
    · have q : (E != 0) = true := by simpa using hz
      clear hz
      go_enter Tryd.func5, Tryd.ntmps5
      go_wp2_with fail
      generalize w.alloc (.cells #[.int .i64 K, .slice A n c] 24) = X at hbx ⊢
      have hbx0 := hbx
      clear hbx
      refine (law_small K A n c L _ (hA.below hbx0.below)).mono ?_
      rintro e w1 ⟨rfl, hb⟩
      rw [HD.out]
      have hbx1 := hbx0.more hb
      clear hbx0 hb
      have c0 := hbx1.c0
      have c1 := hbx1.c1
      go_wp2_with fail
      refine (ref_Check K A n c L _ (hA.below hbx1.below)).mono ?_
      rintro e w2 ⟨rfl, hb⟩
      rw [HE.out]
      clear c0 c1
      have hbx2 := hbx1.more hb
      clear hbx1 hb
      go_wp2_with fail
      refine (law_known _).mono ?_
      rintro e w3 ⟨rfl, hb⟩
      go_wp2_with fail
      go_ret
      exact ⟨rfl, (hbx2.more hb).below⟩
  · have hd : decide (n ≤ 60) = false := by simpa using h60
    have HD := Lib.hid hd
    clear hd
    go_enter Tryd.func5, Tryd.ntmps5
    go_wp2_with fail
    generalize w.alloc (.cells #[.int .i64 K, .slice A n c] 24) = X at hbx ⊢
    have hbx0 := hbx
    clear hbx
    refine (law_small K A n c L _ (hA.below hbx0.below)).mono ?_
    rintro e w1 ⟨rfl, hb⟩
    rw [HD.out]
    have hbx1 := hbx0.more hb
    clear hbx0 hb
    go_wp2_with fail
    refine (law_known _).mono ?_
    rintro e w2 ⟨rfl, hb⟩
    go_wp2_with fail
    go_ret
    exact ⟨rfl, (hbx1.more hb).below⟩
end Go.Proofs.YtkjcmppaapbabaaDoor
