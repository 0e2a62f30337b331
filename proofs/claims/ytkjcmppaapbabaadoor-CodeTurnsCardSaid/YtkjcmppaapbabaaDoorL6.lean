/-
  Contract of the document's Walks. Conditions: the code's letters read and are well formed.
-/
import Derived.Test.YtkjcmppaapbabaaDoorJD
import Derived.Test.YtkjcmppaapbabaaDoorJC
namespace Go.Proofs.YtkjcmppaapbabaaDoor
open Go.RowKit

theorem walk1_stop {f : Nat → Nat} {k : Nat} {s : List Bool} {x : Nat} (h : sat s x = true) : walk1 f k s x = ([], s) := by
  cases k with
  | zero => rfl
  | succ k => unfold walk1; rw [if_pos h]
theorem walk1_step {f : Nat → Nat} {k : Nat} {s : List Bool} {x : Nat} (h : sat s x = false) : walk1 f (k + 1) s x = (x :: (walk1 f k (s.set x true) (f x)).1, (walk1 f k (s.set x true) (f x)).2) := by
  conv => lhs; unfold walk1
  rw [if_neg (by rw [h]; simp)]
theorem walksF_yes {f : Nat → Nat} {d k : Nat} {s : List Bool} (h : sat s d = true) : walksF f (List.range' d (k + 1)) s = walksF f (List.range' (d + 1) k) s := by
  rw [List.range'_succ]; conv => lhs; unfold walksF
  rw [if_pos h]
theorem walksF_no {f : Nat → Nat} {d k : Nat} {s : List Bool} (h : sat s d = false) : walksF f (List.range' d (k + 1)) s = (walk1 f s.length s d).1 :: walksF f (List.range' (d + 1) k) (walk1 f s.length s d).2 := by
  rw [List.range'_succ]; conv => lhs; unfold walksF
  rw [if_neg (by rw [h]; simp)]
theorem slicesInfo : (Tryd.prog.info? 35).map (fun i => (i.zero, i.size, i.bytes)) = some (some (.slice none 0 0), 1, 24) := by kernel_rfl
def lenOf2 : Value → Nat
  | .slice _ n _ => n
  | _ => 0
/-- 'append(out, s)', s a slice of ints, laid in a block of its own first. -/
theorem pushSV {w : World} {ops : Array Oper} {rest : List Oper} {o : Oper} {a : Act} {Q : Exit → Act → World → Prop} (hgd : o.guard = none) (s x : Operand)
    (ho : o.op = .call { callee := .builtin .append, args := #[s, x], argTypes := #[78, 78] })
    {base : Nat} {A : Option Addr} {n c : Nat} {vs : List SV} (hst : Row w base 1 A n c (vs.map SV.val)) (B : Option Addr) (m d : Nat) (hs : a.eval s = .slice A n c)
    (hx : a.eval x = .slice (some ⟨w.heap.size, 0, none⟩) 1 1) (N : Nat) (hN : n + 1 = N) (hn : N ≤ 1000000) (hbase : base ≤ w.heap.size)
    (h : ∀ A' c' w', Row w' base 1 A' N c' ((vs ++ [(⟨B, m, d⟩ : SV)]).map SV.val) → w.grownBy w' (blk A) → (∀ k, blk A' = some k → blk A = some k ∨ w.heap.size ≤ k) → wpList Tryd.prog ops Q rest (a.put o.dst (.slice A' N c')) w') :
    wpList Tryd.prog ops Q (o :: rest) a (w.alloc (.cells #[.slice B m d] 35)) := by
  obtain ⟨i0, hi, hz0, hz1, hz2⟩ := info_parts slicesInfo
  refine appR hgd s x 78 ho 35 i0 _ 1 24 Tryd.underlying78 hi hz0 hz1 hz2 rfl (by decide) (hst.alloc _) (Src.new (m := 1) (cs := [.slice B m d]) rfl)
    (by intro u hu; simp at hu; subst hu; rfl) hs hx N hN (by unfold maxLen; omega) (by omega) (by simp; omega) ?_
  intro A' c' w' h1 h2 h3 _
  refine h A' c' w' (by rw [List.map_append]; exact h1) (only_trans (World.grownBy_alloc w _ _) h2) (fun k hk => ?_)
  rcases h3 k hk with h | h
  · exact .inl h
  · right; simp at h; omega
set_option maxRecDepth 100000 in
set_option maxHeartbeats 3200000 in
theorem ref_Walks (K : Int) (A : Option Addr) (n c : Nat) (L : List Lt) (w : World) (hA : Lets w A n L) (g : Good K L) (hn400 : n ≤ 1000) :
    Calls Tryd.prog 78 #[.agg #[.int .i64 K, .slice A n c]] w fun e w' => ∃ A' c' vs, e = .returned (.slice A' (walksL L).length c') ∧ Wks w' w.heap.size A' (walksL L).length c' vs ((walksL L).map natI) ∧ Below w.heap.size w w' := by
  have hle := hA.le
  have hLn := Lib.hid hA.len
  have hbx := Boxed.refl w K A n c
  obtain ⟨m, hm⟩ : ∃ m, m = (axL L).length := ⟨_, rfl⟩
  have hmn : m ≤ n := by rw [hm, axL_len, hLn.out]; exact pN_le L n
  obtain ⟨N, hN⟩ : ∃ N, N = dartsN L := ⟨_, rfl⟩
  have hNe : N = 2 * n + 2 * m := by rw [hN, hm]; unfold dartsN; rw [hLn.out]
  have hNle : N ≤ 17592186044416 := by omega
  have HM := Lib.hid hm
  have HN := Lib.hid hN
  have HNE := Lib.hid hNe
  have hW : Hid ([] ++ walksF (leftF L (axL L)) (List.range' 0 (N - 0)) (List.replicate N false) = walksL L) := by
    show _ = _
    rw [List.nil_append, Nat.sub_zero, ← List.range_eq_range', hN]; rfl
  clear hm hN hNe
  go_enter Tryd.func78, Tryd.ntmps78
  go_wp2_with fail
  refine (ref_Axis K A n c L _ (hA.below hbx.below)).mono ?_
  rintro e w1 ⟨A1, c1, rfl, hown1, hb1⟩
  rw [← HM.out] at hown1 ⊢
  have hX := hown1.ints
  have hb1' := hbx.more hb1
  have k0 := hb1'.c0
  have k1 := hb1'.c1
  clear hown1 hb1 hbx
  go_wp2_with (at_make; refine makeBW rfl _ _ rfl N _ rfl rfl (by have := HNE.out; omega) hNle (Nat.le_refl _) ?_; intro ws hs0 hbs0 hzs)
  clear k0 k1
  have hA1 := hA.below hb1'.below
  go_loopw [3, 6] (fun v3 v6 wr => ∃ (d q : Nat) (s : List Bool) (A2 : Option Addr) (c2 : Nat) (vs : List SV) (Ws : List (List Nat)), d ≤ N ∧ q ≤ d ∧ v6 = .int .i64 d ∧ v3 = .slice A2 q c2 ∧ Wks wr (w1.heap.size + 1) A2 q c2 vs (Ws.map natI) ∧ OwnB wr w1.heap.size w1.heap.size N s ∧ Below w1.heap.size w1 wr ∧ Hid (Ws ++ walksF (leftF L (axL L)) (List.range' d (N - d)) s = walksL L)) (fun _ v6 _ => N - (intOf v6).toNat)
  case atStart => exact ⟨0, 0, List.replicate N false, none, 0, [], [], Nat.zero_le _, Nat.le_refl _, rfl, rfl, Wks.nil _ _, hs0, hbs0, hW⟩
  case round =>
    obtain ⟨d, q, s, A2, c2, vs, Ws, hd, hqd, rfl, rfl, hwk, hs, hbw, HW⟩ := hrel
    clear hs0 hW hbs0
    by_cases hdN : d < N
    · have hcs := hs.cell hdN
      have i0 : (0 : Int) ≤ (d : Int) := by omega
      have i1 : (d : Int) < (N : Int) := by omega
      cases hsd : sat s d with
      | true =>
        rw [hsd] at hcs
        have HW' := Lib.hid (show Ws ++ walksF (leftF L (axL L)) (List.range' (d + 1) (N - (d + 1))) s = walksL L by
          rw [← HW.out, show N - d = N - (d + 1) + 1 by omega, walksF_yes hsd])
        clear hsd HW
        go_wp2_with fail
        go_roundw
        case rel => exact ⟨d + 1, q, s, A2, c2, vs, Ws, by omega, by omega, by go_num, rfl, hwk, hs, hbw, HW'⟩
        case measure => simp [intOf]; omega
      | false =>
        rw [hsd] at hcs
        have HSD := Lib.hid hsd
        have hHW := Lib.hid (show Ws ++ (walk1 (leftF L (axL L)) N s d).1 :: walksF (leftF L (axL L)) (List.range' (d + 1) (N - (d + 1))) (walk1 (leftF L (axL L)) N s d).2 = walksL L by
          rw [← HW.out, show N - d = N - (d + 1) + 1 by omega, walksF_no hsd, hs.len])
        clear hsd HW
        have hu0 : unN s ≤ N := by rw [← hs.len]; exact unN_le s
        have hlt5 : w1.heap.size < wr.heap.size := hs.lt
        go_wp2_with fail
        obtain ⟨wo, rfl⟩ : ∃ wo : World, wo = wr := ⟨_, rfl⟩
        go_loopw [7, 8] (fun v7 v8 wi => ∃ (x p cP k : Nat) (AP : Option Addr) (P : List Nat) (si : List Bool), x < N ∧ v8 = .int .i64 x ∧ v7 = .slice AP p cP ∧ Own wi wo.heap.size AP p cP (natI P) ∧ OwnB wi w1.heap.size w1.heap.size N si ∧ wo.grownBy wi (some w1.heap.size) ∧ Below w1.heap.size w1 wi ∧ unN si ≤ k ∧ p + unN si = unN s ∧ Hid (P ++ (walk1 (leftF L (axL L)) k si x).1 = (walk1 (leftF L (axL L)) N s d).1 ∧ (walk1 (leftF L (axL L)) k si x).2 = (walk1 (leftF L (axL L)) N s d).2)) (fun v7 _ _ => N - lenOf2 v7)
        case atStart => exact ⟨d, 0, 0, N, none, [], s, hdN, rfl, rfl, Own.nil _ _, hs, World.grownBy.refl _ _, hbw, hu0, by omega, Lib.hid ⟨rfl, rfl⟩⟩
        case round =>
          obtain ⟨x, p, cP, k, AP, P, si, hx, rfl, rfl, hownP, hsi, hgr, hbi, huk, hpu, HP⟩ := hrel
          have j0 : (0 : Int) ≤ (x : Int) := by omega
          have j1 : (x : Int) < (N : Int) := by omega
          have hcx := hsi.cell hx
          have hfx := hsi.frozen x
          have hszi := hgr.size
          cases hsx : sat si x with
          | true =>
            rw [hsx] at hcx
            have hHP := HP.out
            rw [walk1_stop hsx] at hHP
            have HP2 := Lib.hid hHP
            clear hsx HP hHP
            have hwki := hwk.kept hgr (by omega)
            have hownI := hownP.ints
            have hpc := hownP.cap
            have hq1 : q + 1 ≤ 1000000 := by have := HNE.out; omega
            have hb1q : w1.heap.size + 1 ≤ wr.heap.size := by omega
            go_wp2_with (at_builtin; refine pushSV rfl _ _ rfl hwki.row AP p cP rfl rfl (q + 1) rfl hq1 hb1q ?_)
            intro A3 c3 w3 hr3 hg3 ha3
            have hwk3 := hwki.push (v := ⟨AP, p, cP⟩) (by rw [List.map_append]; exact hr3) rfl hg3 ha3 hownI hpc (fun k hk => ⟨by have := (hownP.lt k hk).1; omega, (hownP.lt k hk).2, fun e => by have := (hwk.row.lt k e).2; have := (hownP.lt k hk).1; omega⟩)
            have hsi3 := hsi.kept hg3 (by
              intro e
              have := (hwki.row.lt _ e.symm).1
              omega)
            have hb3 : Below w1.heap.size w1 w3 := below_chain hbi (B := w1.heap.size) (C := w1.heap.size + 1) ((Below.refl _ _).grown hg3 (by omega) (fun k hk => (hwki.row.lt k hk).1)) (by omega)
            have hHW3 := Lib.hid (show (Ws ++ [P]) ++ walksF (leftF L (axL L)) (List.range' (d + 1) (N - (d + 1))) si = walksL L by
              rw [← hHW.out, ← HP2.out.1, ← HP2.out.2]; simp)
            have hmap : Ws.map natI ++ [natI P] = (Ws ++ [P]).map natI := by simp
            rw [hmap] at hwk3
            clear hr3 hg3 ha3 hwki hownI hownP hsi hgr hbi hwk hs hbw hmap HP2 hHW hcx hfx hcs
            go_wp2_with fail
            go_roundw
            case rel => exact ⟨d + 1, q + 1, si, A3, c3, _, _, by omega, by omega, by go_num, rfl, hwk3, hsi3, hb3, hHW3⟩
            case measure => simp [intOf]; omega
          | false =>
            rw [hsx] at hcx
            obtain ⟨k, rfl⟩ : ∃ k', k = k' + 1 := ⟨k - 1, by have := unN_pos hsx; omega⟩
            have hus := unN_set hsx
            have hHP := HP.out
            rw [walk1_step hsx] at hHP
            have HP2 := Lib.hid (show (P ++ [x]) ++ (walk1 (leftF L (axL L)) k (si.set x true) (leftF L (axL L) x)).1 = (walk1 (leftF L (axL L)) N s d).1 ∧ (walk1 (leftF L (axL L)) k (si.set x true) (leftF L (axL L) x)).2 = (walk1 (leftF L (axL L)) N s d).2 by
              simpa using hHP)
            clear hsx HP hHP
            have hx64 : I64 (x : Int) := ⟨by omega, by omega⟩
            have HX64 := Lib.hid hx64
            clear hx64
            have g1 := only_setCell (World.grownBy.refl wr (some w1.heap.size)) (p := ⟨w1.heap.size, x, none⟩) (.inl rfl) (.bool true)
            have hownS : Own (wr.setCell ⟨w1.heap.size, x, none⟩ (.bool true)) wo.heap.size AP p cP (natI P) := hownP.kept g1 (by
              cases hb : blk AP with
              | none => exact .inl rfl
              | some q => exact .inr (by have := (hownP.lt q hb).1; simp; omega))
            have hsS := hsi.stored x true
            have hgS := only_setCell hgr (p := ⟨w1.heap.size, x, none⟩) (.inl rfl) (.bool true)
            have hbS := hbi.setCell (p := ⟨w1.heap.size, x, none⟩) (Nat.le_refl _) (.bool true)
            have hszS : (wr.setCell ⟨w1.heap.size, x, none⟩ (.bool true)).heap.size = wr.heap.size := by simp
            have hp17 : p < 17592186044416 := by omega
            clear g1 hownP hsi hgr hbi
            go_wp2_with (at_builtin; refine app1m rfl _ _ rfl hownS (x : Int) rfl wr.heap.size hszS rfl HX64.out hp17 (by omega) ?_)
            intro A4 c4 w4 hown4 hb4 _ _
            have hs4 := hsS.below hb4 hlt5
            have hg4 := only_below hgS hb4 (Nat.le_refl _)
            have hb4' := below_chain hbS hb4 (by omega)
            have hmap : natI P ++ [(x : Int)] = natI (P ++ [x]) := by simp [natI]
            rw [hmap] at hown4
            have hx' : leftF L (axL L) x < N := by rw [HN.out]; exact g.into (by rw [← HN.out]; exact hx)
            clear hownS hsS hgS hbS hb4 hmap hcx hfx hszS
            have k0 := (hb1'.moreB hb4' (by have := hb1'.size; omega)).c0
            have k1 := (hb1'.moreB hb4' (by have := hb1'.size; omega)).c1
            go_wp2_with fail
            refine (ref_Turn K x A A1 n c m c1 L _ (hA1.below hb4') g (hX.below hb4') (by rw [← HN.out]; exact hx)).mono ?_
            rintro e w5 ⟨rfl, hb5⟩
            have hs5 := hs4.below hb5 hs4.lt
            have hg5 := only_below hg4 hb5 hg4.size
            have hown5 := hown4.below hb5
            have hb5' := below_chain hb4' hb5 (by have := hb4'.size; omega)
            clear hs4 hg4 hown4 hb4' hb5 k0 k1
            generalize leftF L (axL L) x = x' at hx' HP2 ⊢
            have hsl : (si.set x true).length = N := hs5.len
            go_wp2_with fail
            go_roundw
            case rel => exact ⟨x', p + 1, c4, k, A4, P ++ [x], si.set x true, hx', rfl, rfl, hown5, hs5, hg5, hb5', by omega, by omega, HP2⟩
            case measure => simp [lenOf2]; omega
    · have hdN' : d = N := by omega
      subst hdN'
      have hWs : Ws = walksL L := by
        have := HW.out
        rw [Nat.sub_self] at this
        simpa [walksF] using this
      have hq : q = (walksL L).length := by rw [← hWs, ← hwk.len]; simp
      rw [hWs] at hwk
      subst hq
      have HW2 := Lib.hid hWs
      clear hWs HW
      go_wp2_with fail
      go_ret
      exact ⟨_, _, vs, rfl, hwk.mono (by have := hb1'.size; omega), below_chain hb1'.below hbw (by have := hb1'.size; omega)⟩
end Go.Proofs.YtkjcmppaapbabaaDoor
