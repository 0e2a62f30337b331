/-
  Contract: the program's Faces. Conditions: the letters read.
-/
import Derived.Test.YtkjcmppaapbabaaDoorM13
namespace Go.Proofs.YtkjcmppaapbabaaDoor
open Go.RowKit
/-- A face as a value. -/
structure FV where
  above : Bool
  dA : Option Addr
  dn : Nat
  dc : Nat
  pA : Option Addr
  pn : Nat
  pc : Nat
  fA : Option Addr
  fn : Nat
  fc : Nat
  outer : Bool
def fvC (v : FV) : List Value := [.bool v.above, .slice v.dA v.dn v.dc, .slice v.pA v.pn v.pc, .slice v.fA v.fn v.fc, .bool v.outer]
theorem fvC_len (v : FV) : (fvC v).length = 5 := rfl
structure FcOk (w : World) (base : Nat) (A : Option Addr) (v : FV) (F : Fc) : Prop where
  above : v.above = F.above
  outer : v.outer = F.outer
  darts : Own w base v.dA v.dn v.dc F.darts
  places : OwnQ w base v.pA v.pn v.pc F.places
  fingers : Own w base v.fA v.fn v.fc F.fingers
  ad : Apart v.dA A
  ap : Apart v.pA A
  af : Apart v.fA A
/-- A slice of faces, all of the call's own. -/
structure Fcs (w : World) (base : Nat) (A : Option Addr) (n c : Nat) (vs : List FV) (Fs : List Fc) : Prop where
  row : Row w base 5 A n c (vs.flatMap fvC)
  len : Fs.length = n
  each : ∀ (j : Nat) (v : FV) (F : Fc), vs[j]? = some v → Fs[j]? = some F → FcOk w base A v F
section
variable {w w' : World} {base : Nat} {A : Option Addr} {n c : Nat} {vs : List FV} {Fs : List Fc} {v : FV} {F : Fc}
theorem FcOk.below (h : FcOk w base A v F) (hb : Below w.heap.size w w') : FcOk w' base A v F := ⟨h.above, h.outer, h.darts.below hb, h.places.next hb, h.fingers.below hb, h.ad, h.ap, h.af⟩
theorem FcOk.kept {g : Nat} (h : FcOk w base A v F) (hg : w.grownBy w' (some g)) (hlt : g < base) : FcOk w' base A v F :=
  ⟨h.above, h.outer, h.darts.kept hg (ne_some fun q hq => by have := (h.darts.lt q hq).1; omega), h.places.kept hg (ne_some fun q hq => by have := (h.places.row.lt q hq).1; omega), h.fingers.kept hg (ne_some fun q hq => by have := (h.fingers.lt q hq).1; omega), h.ad, h.ap, h.af⟩
theorem FcOk.push {A' : Option Addr} (h : FcOk w base A v F) (hg : w.grownBy w' (blk A)) (hA : ∀ k, blk A' = some k → blk A = some k ∨ w.heap.size ≤ k) : FcOk w' base A' v F :=
  ⟨h.above, h.outer, h.darts.kept hg (ne_row h.ad), h.places.kept hg (ne_row h.ap), h.fingers.kept hg (ne_row h.af),
   fun q hq e => by
    rcases hA q e with h1 | h1
    · exact h.ad q hq h1
    · have := (h.darts.lt q hq).2; omega,
   fun q hq e => by
    rcases hA q e with h1 | h1
    · exact h.ap q hq h1
    · have := (h.places.row.lt q hq).2; omega,
   fun q hq e => by
    rcases hA q e with h1 | h1
    · exact h.af q hq h1
    · have := (h.fingers.lt q hq).2; omega⟩
theorem Fcs.vlen (h : Fcs w base A n c vs Fs) : vs.length = n := by
  have := h.row.len
  rw [flat_len fvC 5 fvC_len] at this
  omega
theorem Fcs.nil (w : World) (base : Nat) : Fcs w base none 0 0 [] [] := ⟨Row.none_ _ _ _, rfl, fun j v F h => by simp at h⟩
theorem Fcs.below (h : Fcs w base A n c vs Fs) (hb : Below w.heap.size w w') : Fcs w' base A n c vs Fs := ⟨h.row.below hb, h.len, fun j v F h1 h2 => (h.each j v F h1 h2).below hb⟩
theorem Fcs.mono {base' : Nat} (h : Fcs w base A n c vs Fs) (hb : base' ≤ base) : Fcs w base' A n c vs Fs :=
  ⟨h.row.mono hb, h.len, fun j v F h1 h2 => by
    have e := h.each j v F h1 h2
    exact ⟨e.above, e.outer, Own.mono e.darts hb, e.places.mono hb, Own.mono e.fingers hb, e.ad, e.ap, e.af⟩⟩
theorem Fcs.kept {g : Nat} (h : Fcs w base A n c vs Fs) (hg : w.grownBy w' (some g)) (hlt : g < base) : Fcs w' base A n c vs Fs :=
  ⟨h.row.kept hg (ne_some fun q hq => by have := (h.row.lt q hq).1; omega), h.len, fun j v F h1 h2 => (h.each j v F h1 h2).kept hg hlt⟩
/-- One face more. -/
theorem Fcs.push {A' : Option Addr} {n' c' : Nat} (h : Fcs w base A n c vs Fs) (hr : Row w' base 5 A' n' c' ((vs ++ [v]).flatMap fvC)) (hn : n + 1 = n') (hg : w.grownBy w' (blk A)) (hA : ∀ k, blk A' = some k → blk A = some k ∨ w.heap.size ≤ k)
    (hv : FcOk w base A v F) : Fcs w' base A' n' c' (vs ++ [v]) (Fs ++ [F]) := by
  refine ⟨hr, by simp [h.len, hn], fun j x X hx hX => ?_⟩
  by_cases hj : j < n
  · rw [List.getElem?_append_left (by rw [h.vlen]; exact hj)] at hx
    rw [List.getElem?_append_left (by rw [h.len]; exact hj)] at hX
    exact (h.each j x X hx hX).push hg hA
  · rw [List.getElem?_append_right (by rw [h.vlen]; omega), h.vlen] at hx
    rw [List.getElem?_append_right (by rw [h.len]; omega), h.len] at hX
    have e1 : j - n = 0 := by
      rcases Nat.eq_zero_or_pos (j - n) with h0 | h0
      · exact h0
      · rw [List.getElem?_eq_none (by simp; omega)] at hx; cases hx
    rw [e1] at hx hX
    simp at hx hX
    subst hx; subst hX
    exact hv.push hg hA
end
theorem fcInfo : (Tryd.prog.info? 38).map (fun i => (i.zero, i.size, i.bytes)) = some (some (.agg #[.bool false, .slice none 0 0, .slice none 0 0, .slice none 0 0, .bool false]), 5, 88) := by kernel_rfl
theorem buildF1 (v0 v4 : Bool) (A1 A2 A3 : Option Addr) (n1 c1 n2 c2 n3 c3 : Nat) (w : World) : (Instr.buildSlice 29 1 #[(0, .agg #[.bool v0, .slice A1 n1 c1, .slice A2 n2 c2, .slice A3 n3 c3, .bool v4])]).run Tryd.prog w = .ok (.slice (some ⟨w.heap.size, 0, none⟩) 1 1) (w.alloc (.cells #[.bool v0, .slice A1 n1 c1, .slice A2 n2 c2, .slice A3 n3 c3, .bool v4] 38)) := by
  obtain ⟨i0, hi, hz0, hz1, hz2⟩ := info_parts fcInfo
  refine run_buildSlice w _ _ 1 _ _ i0 _ Tryd.underlying29 hi hz0 (by rw [hz1]; omega) (by rw [hz1]; omega) ?_
  rw [hz1]
  kernel_rfl
/-- 'append(out, face)'. -/
theorem pushF {w : World} {ops : Array Oper} {rest : List Oper} {o : Oper} {a : Act} {Q' : Exit → Act → World → Prop} (hgd : o.guard = none) (s x : Operand)
    (ho : o.op = .call { callee := .builtin .append, args := #[s, x], argTypes := #[29, 29] })
    {base : Nat} {A : Option Addr} {n c : Nat} {vs : List FV} {Fs : List Fc} (hst : Fcs w base A n c vs Fs) (v : FV) (hs : a.eval s = .slice A n c)
    (H : Nat) (hH : w.heap.size = H) (hx : a.eval x = .slice (some ⟨H, 0, none⟩) 1 1) (N : Nat) (hN : n + 1 = N) (hn : N ≤ 1000000) (hbase : base ≤ w.heap.size)
    (h : ∀ A' c' w', Row w' base 5 A' N c' ((vs ++ [v]).flatMap fvC) → w.grownBy w' (blk A) → (∀ k, blk A' = some k → blk A = some k ∨ w.heap.size ≤ k) → wpList Tryd.prog ops Q' rest (a.put o.dst (.slice A' N c')) w') :
    wpList Tryd.prog ops Q' (o :: rest) a (w.alloc (.cells #[.bool v.above, .slice v.dA v.dn v.dc, .slice v.pA v.pn v.pc, .slice v.fA v.fn v.fc, .bool v.outer] 38)) := by
  subst hH
  obtain ⟨i0, hi, hz0, hz1, hz2⟩ := info_parts fcInfo
  refine appR hgd s x 29 ho 38 i0 _ 5 88 Tryd.underlying29 hi hz0 hz1 hz2 rfl (by decide) (hst.row.alloc _) (Src.new (m := 1) (cs := fvC v) rfl)
    (by intro u hu; simp [fvC] at hu; rcases hu with rfl | rfl | rfl | rfl | rfl <;> rfl) hs hx N hN (by unfold maxLen; omega) (by omega) (by simp; omega) ?_
  intro A' c' w' h1 h2 h3 _
  refine h A' c' w' (by rw [List.flatMap_append]; simpa using h1) (only_trans (World.grownBy_alloc w _ _) h2) (fun k hk => ?_)
  rcases h3 k hk with h | h
  · exact .inl h
  · right; simp at h; omega
theorem fF_yes {f : Nat → Nat} {b d k : Nat} {s : List Bool} (h : sat s d = true) : facesF f b (List.range' d (k + 1)) s = facesF f b (List.range' (d + 1) k) s := by
  rw [List.range'_succ]; conv => lhs; unfold facesF
  rw [if_pos h]
theorem fF_no {f : Nat → Nat} {b d k : Nat} {s : List Bool} (h : sat s d = false) : facesF f b (List.range' d (k + 1)) s = (face1 f b (2 * s.length + 2) s d).1 :: facesF f b (List.range' (d + 1) k) (face1 f b (2 * s.length + 2) s d).2 := by
  rw [List.range'_succ]; conv => lhs; unfold facesF
  rw [if_neg (by rw [h]; simp)]
set_option maxHeartbeats 800000 in
theorem dia_below0 (p : Nat) (K : Int) (A : Option Addr) (c : Nat) (v2 v3 v4 v5 v6 : Value) (w : World) (hd : Dia w p K A 0 c v2 v3 v4 v5 v6) :
    Calls Tryd.prog 81 #[.pointer (some ⟨p, 0, none⟩)] w fun e w' => ∃ g, e = .returned (.slice (some ⟨g, 0, none⟩) 0 0) ∧ Below w.heap.size w w' := by
  have c1 := hd.c1
  go_enter Tryd.func81, Tryd.ntmps81
  go_wp2_with (at_make; refine makeBW rfl _ _ rfl 0 _ rfl rfl rfl (by omega) (Nat.le_refl _) ?_; intro ws hs0 hbs0 hzs; have e1 := (hd.next hbs0).c1)
  go_loopw [4, 5, 6, 20] (fun _ _ _ v20 wr => v20 = .int .i64 0 ∧ Below w.heap.size w wr) (fun _ _ _ v20 _ => 0)
  case atStart => exact ⟨rfl, hbs0⟩
  case round =>
    obtain ⟨rfl, hbw⟩ := hrel
    clear hbs0 e1 c1 hs0
    go_wp2_with fail
    go_ret
    exact ⟨_, rfl, hbw⟩
def FacesPost (w : World) (K : Int) (L : List Lt) (e : Ending) (w' : World) : Prop :=
  ∃ (A' : Option Addr) (n' c' : Nat) (vs : List FV), e = .returned (.tuple #[.slice A' n' c', .int .i64 (checkE K L)]) ∧ Below w.heap.size w w' ∧ (checkE K L = 0 → Fcs w' w.heap.size A' n' c' vs (facesL K L)) ∧ (checkE K L ≠ 0 → n' = 0)
theorem facesL_nil (K : Int) : facesL K [] = [] := rfl
set_option maxRecDepth 100000 in
set_option maxHeartbeats 6400000 in
theorem code_Faces (K : Int) (A : Option Addr) (n c : Nat) (L : List Lt) (w : World) (hA : Lets w A n L) :
    Calls Tryd.prog 23 #[.agg #[.int .i64 K, .slice A n c]] w (FacesPost w K L) := by
  have hbx := Boxed.refl w K A n c
  have x0 := hbx.c0
  have x1 := hbx.c1
  have hbf := buildF1
  obtain ⟨E, hE⟩ : ∃ E, checkE K L = E := ⟨_, rfl⟩
  have HE := Lib.hid hE
  have hLn := Lib.hid hA.len
  clear hE
  by_cases hz : E = 0
  · subst hz
    go_enter Tryd.func23, Tryd.ntmps23
    go_wp2_with fail
    refine (code_read K A n c L _ (hA.below hbx.below)).mono ?_
    rintro e w1 ⟨v, rfl, hb1, hok⟩
    obtain ⟨p, rfl, k, rfl, hk40, hn400, hp, hcase⟩ := hok HE.out
    have hb2 := hbx.more hb1
    rw [HE.out]
    clear x0 x1 hbx hb1 hok
    rcases hcase with ⟨rfl, hd⟩ | ⟨hn0, base, b, g2, g3, g4, g6, s, P, C, ids, hbase, hF⟩
    · have d1 := hd.c1
      go_wp2_with (at_make; refine makeBW rfl _ _ rfl 0 _ rfl rfl rfl (by omega) (Nat.le_refl _) ?_; intro ws hs0 hbs0 hzs)
      refine (dia_below0 p (k : Int) A c _ _ _ _ _ ws (hd.next hbs0)).mono ?_
      rintro e w2 ⟨gB, rfl, hb3⟩
      have hb4 := below_chain hb2.below (below_chain hbs0 hb3 hbs0.size) (by have := hb2.size; omega)
      clear d1 hd hs0 hbs0 hzs hb3 hb2
      have HB4 := Lib.hid hb4
      clear hb4
      go_wp2_with fail
      go_loopw [6, 9, 30] (fun v6 _ v30 wr => v6 = .slice none 0 0 ∧ v30 = .int .i64 0 ∧ Below w.heap.size w wr) (fun _ _ _ _ => 0)
      case atStart => exact ⟨rfl, rfl, HB4.out⟩
      case round =>
        obtain ⟨rfl, rfl, hbw⟩ := hrel
        go_wp2_with fail
        go_ret2
        refine ⟨none, 0, 0, [], by rw [HE.out]; rfl, hbw, fun _ => ?_, fun h => absurd HE.out h⟩
        have : L = [] := List.eq_nil_of_length_eq_zero hLn.out
        subst this
        exact Fcs.nil _ _
    · have d1 := hF.ranks.dia.c1
      have hnle : 2 * n ≤ 17592186044416 := by omega
      have hsz2 := hb2.size
      have hst : Hid ([] ++ (facesF (leftF L (axL L)) (2 * n) (List.range' 0 (2 * n - 0)) (List.replicate (2 * n) false)).map (faceOf (k : Int) L (axL L)) = facesL (k : Int) L) := by
        show _ = _
        have hw := hF.good.walks
        rw [hLn.out] at hw
        unfold facesL
        rw [List.nil_append, Nat.sub_zero, ← List.range_eq_range', hw]
      go_wp2_with (at_make; refine makeBW rfl _ _ rfl (2 * n) _ rfl rfl (by omega) hnle (Nat.le_refl _) ?_; intro ws hs0 hbs0 hzs)
      refine (dia_below base p k A n c L b g2 g3 g4 g6 s P C ids ws (hF.next hbs0)).mono ?_
      rintro e w2 ⟨gB, bl, rfl, hB, hbl, hb3⟩
      have hs2 := hs0.below hb3 hs0.lt
      have hbw2 : Below w1.heap.size w1 w2 := below_chain hbs0 hb3 hbs0.size
      have hgB : w1.heap.size + 1 ≤ gB := by have := hB.base; omega
      have hgS : w1.heap.size < w2.heap.size := hs2.lt
      have hbW2 : Below w.heap.size w w2 := below_chain hb2.below hbw2 (by omega)
      have HBL := Lib.hid hbl
      have HF := Lib.hid hF
      clear d1 hF hs0 hbs0 hzs hb3 hb2 hbl
      go_wp2_with fail
      go_loopw [6, 9, 30] (fun v6 _ v30 wr => ∃ (d q : Nat) (s' : List Bool) (A2 : Option Addr) (c2 : Nat) (vs : List FV) (Fs : List Fc), d ≤ 2 * n ∧ q ≤ d ∧ v30 = .int .i64 d ∧ v6 = .slice A2 q c2 ∧ Fcs wr w2.heap.size A2 q c2 vs Fs ∧ OwnB wr w1.heap.size w1.heap.size (2 * n) s' ∧ w2.grownBy wr (some w1.heap.size) ∧
        Hid (Fs ++ (facesF (leftF L (axL L)) (2 * n) (List.range' d (2 * n - d)) s').map (faceOf (k : Int) L (axL L)) = facesL (k : Int) L)) (fun _ _ v30 _ => 2 * n - (intOf v30).toNat)
      case atStart => exact ⟨0, 0, List.replicate (2 * n) false, none, 0, [], [], Nat.zero_le _, Nat.le_refl _, rfl, rfl, Fcs.nil _ _, hs2, World.grownBy.refl _ _, hst⟩
      case round =>
        obtain ⟨d, q, s', A2, c2, vs, Fs, hd, hqd, rfl, rfl, hfc, hs, hg, HW⟩ := hrel
        clear hs2 hst
        have hszr := hg.size
        by_cases hlt : d < 2 * n
        · have hcs := hs.cell hlt
          have i0 : (0 : Int) ≤ (d : Int) := by omega
          have i1 : (d : Int) < 2 * (n : Int) := by omega
          cases hsd : sat s' d with
          | true =>
            rw [hsd] at hcs
            have HW' := Lib.hid (show Fs ++ (facesF (leftF L (axL L)) (2 * n) (List.range' (d + 1) (2 * n - (d + 1))) s').map (faceOf (k : Int) L (axL L)) = facesL (k : Int) L by
              rw [← HW.out, show 2 * n - d = 2 * n - (d + 1) + 1 by omega, fF_yes hsd])
            clear hsd HW
            go_wp2_with fail
            go_roundw
            case rel => exact ⟨d + 1, q, s', A2, c2, vs, Fs, by omega, by omega, by go_num, rfl, hfc, hs, hg, HW'⟩
            case measure => simp [intOf]; omega
          | false =>
            rw [hsd] at hcs
            have HSD := Lib.hid hsd
            have HW' := Lib.hid (show (Fs ++ [faceOf (k : Int) L (axL L) (face1L L n s' d).1]) ++ (facesF (leftF L (axL L)) (2 * n) (List.range' (d + 1) (2 * n - (d + 1))) (face1L L n s' d).2).map (faceOf (k : Int) L (axL L)) = facesL (k : Int) L by
              rw [← HW.out, show 2 * n - d = 2 * n - (d + 1) + 1 by omega, fF_no hsd, hs.len]
              unfold face1L
              simp)
            have hbr := hbw2.trans (below_of_only hg (Nat.le_refl _) (by omega))
            have hBr := hB.kept hg (by simp; omega)
            clear hsd HW
            go_wp2_with fail
            refine (dia_face d base p k A n c L b g2 g3 g4 g6 s P C ids w1 _ HF.out hbr hk40 w1.heap.size gB _ _ s' bl hs hBr HBL.out (Nat.le_refl _) hlt HSD.out).mono ?_
            rintro e w3 ⟨Ad, Ap, Af, nd, cd, np, cp, nf, cf, rfl, hs3, hD3, hP3, hF3, hg3⟩
            generalize hfv : faceOf (k : Int) L (axL L) (face1L L n s' d).1 = f at hD3 hP3 hF3 HW' ⊢
            generalize hsv : (face1L L n s' d).2 = s3 at hs3 HW'
            have hfc3 := hfc.kept hg3 hgS
            have hv : FcOk w3 w2.heap.size A2 ⟨f.above, Ad, nd, cd, Ap, np, cp, Af, nf, cf, f.outer⟩ f :=
              ⟨rfl, rfl, Own.mono hD3 hszr, hP3.mono hszr, Own.mono hF3 hszr, fun q hq e => by have := (hfc.row.lt q e).2; have := (hD3.lt q hq).1; omega, fun q hq e => by have := (hfc.row.lt q e).2; have := (hP3.row.lt q hq).1; omega, fun q hq e => by have := (hfc.row.lt q e).2; have := (hF3.lt q hq).1; omega⟩
            have hsz3 := hg3.size
            have hg23 := only_trans hg hg3
            clear hfv hsv hfc hs hg hg3 hD3 hP3 hF3 hbr hBr hcs
            go_wp2_with (at_builtin; refine pushF rfl _ _ rfl hfc3 ⟨f.above, Ad, nd, cd, Ap, np, cp, Af, nf, cf, f.outer⟩ rfl w3.heap.size rfl rfl (q + 1) rfl (by omega) (by omega) ?_; intro A4 c4 w4 hr4 hg4 hl4)
            have hfc4 := hfc3.push hr4 rfl hg4 hl4 hv
            have hs4 := hs3.kept hg4 (fun e => by have := (hfc3.row.lt _ e.symm).1; omega)
            have hg24 := only_below hg23 (hfc3.row.belowOf hg4 (by omega)) (Nat.le_refl _)
            clear hfc3 hr4 hg4 hl4 hv hs3 hg23
            go_wp2_with fail
            go_roundw
            case rel => exact ⟨d + 1, q + 1, s3, A4, c4, _, _, by omega, by omega, by go_num, rfl, hfc4, hs4, hg24, HW'⟩
            case measure => simp [intOf]; omega
        · have hdn : d = 2 * n := by omega
          have hFs : Fs = facesL (k : Int) L := by
            have := HW.out
            rw [hdn, Nat.sub_self] at this
            simpa [facesF] using this
          have i1 : ¬ (d : Int) < 2 * (n : Int) := by omega
          rw [hFs] at hfc
          have HFS := Lib.hid hFs
          have HDN := Lib.hid hdn
          clear hFs hdn HW
          go_wp2_with fail
          go_ret2
          exact ⟨A2, q, c2, vs, by rw [HE.out]; rfl, hbW2.trans (below_of_only hg (by omega) (by omega)), fun _ => hfc.mono (by omega), fun h => absurd HE.out h⟩
  · have q : (E == 0) = false := by simpa using hz
    go_enter Tryd.func23, Tryd.ntmps23
    go_wp2_with fail
    refine (code_read K A n c L _ (hA.below hbx.below)).mono ?_
    rintro e w1 ⟨v, rfl, hb1, _⟩
    have hb2 := hbx.more hb1
    rw [HE.out]
    clear x0 x1 hbx hb1 hz
    go_wp2_with fail
    go_ret2
    exact ⟨none, 0, 0, [], by rw [HE.out]; rfl, hb2.below, fun h => by rw [HE.out] at h; simp [h] at q, fun _ => rfl⟩
end Go.Proofs.YtkjcmppaapbabaaDoor
