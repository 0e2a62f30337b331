/-
  Contract of the document's Walks. Conditions: the code's letters read and are well formed.
  Contract of the document's test of letters. Conditions: the code's letters read; at most 1000 letters.
  Contract of the document's Check. Conditions: the code's letters read.
-/
import Derived.Test.YtkjcmppaapbabaaDoorJD
import Derived.Test.YtkjcmppaapbabaaDoorJC
import Derived.Test.YtkjcmppaapbabaaDoorJI
import Derived.Deep.DeepCutAuto
namespace Go.Proofs.YtkjcmppaapbabaaDoor
section
open Go.RowKit

theorem walk1_stop {f : Nat → Nat} {k : Nat} {s : List Bool} {x : Nat} (h : sat s x = true) : walk1 f k s x = ([], s) := by
  cases k with
  | zero => rfl
  | succ k => unfold walk1; rw [if_pos h]
theorem walk1_step {f : Nat → Nat} {k : Nat} {s : List Bool} {x : Nat} (h : sat s x = false) : walk1 f (k + 1) s x = (x :: (walk1 f k (s.set x true) (f x)).1, (walk1 f k (s.set x true) (f x)).2) := by
  conv => lhs; unfold walk1
  rw [if_neg (by rw [h]; simp)]
theorem walksF_yes {f : Nat → Nat} {d k : Nat} {s : List Bool} (h : sat s d = true) : walksF f (List.range' d (k + 1)) s = walksF f (List.range' (d + 1) k) s := by
  rw [List.range'_succ]; conv => lhs; unfold walksF
  rw [if_pos h]
theorem walksF_no {f : Nat → Nat} {d k : Nat} {s : List Bool} (h : sat s d = false) : walksF f (List.range' d (k + 1)) s = (walk1 f s.length s d).1 :: walksF f (List.range' (d + 1) k) (walk1 f s.length s d).2 := by
  rw [List.range'_succ]; conv => lhs; unfold walksF
  rw [if_neg (by rw [h]; simp)]
theorem slicesInfo : (Tryd.prog.info? 35).map (fun i => (i.zero, i.size, i.bytes)) = some (some (.slice none 0 0), 1, 24) := by kernel_rfl
def lenOf2 : Value → Nat
  | .slice _ n _ => n
  | _ => 0
/-- 'append(out, s)', s a slice of ints, laid in a block of its own first. -/
theorem pushSV {w : World} {ops : Array Oper} {rest : List Oper} {o : Oper} {a : Act} {Q : Exit → Act → World → Prop} (hgd : o.guard = none) (s x : Operand)
    (ho : o.op = .call { callee := .builtin .append, args := #[s, x], argTypes := #[78, 78] })
    {base : Nat} {A : Option Addr} {n c : Nat} {vs : List SV} (hst : Row w base 1 A n c (vs.map SV.val)) (B : Option Addr) (m d : Nat) (hs : a.eval s = .slice A n c)
    (hx : a.eval x = .slice (some ⟨w.heap.size, 0, none⟩) 1 1) (N : Nat) (hN : n + 1 = N) (hn : N ≤ 1000000) (hbase : base ≤ w.heap.size)
    (h : ∀ A' c' w', Row w' base 1 A' N c' ((vs ++ [(⟨B, m, d⟩ : SV)]).map SV.val) → w.grownBy w' (blk A) → (∀ k, blk A' = some k → blk A = some k ∨ w.heap.size ≤ k) → wpList Tryd.prog ops Q rest (a.put o.dst (.slice A' N c')) w') :
    wpList Tryd.prog ops Q (o :: rest) a (w.alloc (.cells #[.slice B m d] 35)) := by
  obtain ⟨i0, hi, hz0, hz1, hz2⟩ := info_parts slicesInfo
  refine appR hgd s x 78 ho 35 i0 _ 1 24 Tryd.underlying78 hi hz0 hz1 hz2 rfl (by decide) (hst.alloc _) (Src.new (m := 1) (cs := [.slice B m d]) rfl)
    (by intro u hu; simp at hu; subst hu; rfl) hs hx N hN (by unfold maxLen; omega) (by omega) (by simp; omega) ?_
  intro A' c' w' h1 h2 h3 _
  refine h A' c' w' (by rw [List.map_append]; exact h1) (only_trans (World.grownBy_alloc w _ _) h2) (fun k hk => ?_)
  rcases h3 k hk with h | h
  · exact .inl h
  · right; simp at h; omega
set_option maxRecDepth 100000 in
set_option maxHeartbeats 3200000 in
theorem ref_Walks (K : Int) (A : Option Addr) (n c : Nat) (L : List Lt) (w : World) (hA : Lets w A n L) (g : Good K L) (hn400 : n ≤ 1000) :
    Calls Tryd.prog 78 #[.agg #[.int .i64 K, .slice A n c]] w fun e w' => ∃ A' c' vs, e = .returned (.slice A' (walksL L).length c') ∧ Wks w' w.heap.size A' (walksL L).length c' vs ((walksL L).map natI) ∧ Below w.heap.size w w' := by
  have hle := hA.le
  have hLn := Lib.hid hA.len
  have hbx := Boxed.refl w K A n c
  obtain ⟨m, hm⟩ : ∃ m, m = (axL L).length := ⟨_, rfl⟩
  have hmn : m ≤ n := by rw [hm, axL_len, hLn.out]; exact pN_le L n
  obtain ⟨N, hN⟩ : ∃ N, N = dartsN L := ⟨_, rfl⟩
  have hNe : N = 2 * n + 2 * m := by rw [hN, hm]; unfold dartsN; rw [hLn.out]
  have hNle : N ≤ 17592186044416 := by omega
  have HM := Lib.hid hm
  have HN := Lib.hid hN
  have HNE := Lib.hid hNe
  have hW : Hid ([] ++ walksF (leftF L (axL L)) (List.range' 0 (N - 0)) (List.replicate N false) = walksL L) := by
    show _ = _
    rw [List.nil_append, Nat.sub_zero, ← List.range_eq_range', hN]; rfl
  clear hm hN hNe
  go_enter Tryd.func78, Tryd.ntmps78
  go_wp2_with fail
  refine (ref_Axis K A n c L _ (hA.below hbx.below)).mono ?_
  rintro e w1 ⟨A1, c1, rfl, hown1, hb1⟩
  rw [← HM.out] at hown1 ⊢
  have hX := hown1.ints
  have hb1' := hbx.more hb1
  have k0 := hb1'.c0
  have k1 := hb1'.c1
  clear hown1 hb1 hbx
  go_wp2_with (at_make; refine makeBW rfl _ _ rfl N _ rfl rfl (by have := HNE.out; omega) hNle (Nat.le_refl _) ?_; intro ws hs0 hbs0 hzs)
  clear k0 k1
  have hA1 := hA.below hb1'.below
  go_loopw [3, 6] (fun v3 v6 wr => ∃ (d q : Nat) (s : List Bool) (A2 : Option Addr) (c2 : Nat) (vs : List SV) (Ws : List (List Nat)), d ≤ N ∧ q ≤ d ∧ v6 = .int .i64 d ∧ v3 = .slice A2 q c2 ∧ Wks wr (w1.heap.size + 1) A2 q c2 vs (Ws.map natI) ∧ OwnB wr w1.heap.size w1.heap.size N s ∧ Below w1.heap.size w1 wr ∧ Hid (Ws ++ walksF (leftF L (axL L)) (List.range' d (N - d)) s = walksL L)) (fun _ v6 _ => N - (intOf v6).toNat)
  case atStart => exact ⟨0, 0, List.replicate N false, none, 0, [], [], Nat.zero_le _, Nat.le_refl _, rfl, rfl, Wks.nil _ _, hs0, hbs0, hW⟩
  case round =>
    obtain ⟨d, q, s, A2, c2, vs, Ws, hd, hqd, rfl, rfl, hwk, hs, hbw, HW⟩ := hrel
    clear hs0 hW hbs0
    by_cases hdN : d < N
    · have hcs := hs.cell hdN
      have i0 : (0 : Int) ≤ (d : Int) := by omega
      have i1 : (d : Int) < (N : Int) := by omega
      cases hsd : sat s d with
      | true =>
        rw [hsd] at hcs
        have HW' := Lib.hid (show Ws ++ walksF (leftF L (axL L)) (List.range' (d + 1) (N - (d + 1))) s = walksL L by
          rw [← HW.out, show N - d = N - (d + 1) + 1 by omega, walksF_yes hsd])
        clear hsd HW
        go_wp2_with fail
        go_roundw
        case rel => exact ⟨d + 1, q, s, A2, c2, vs, Ws, by omega, by omega, by go_num, rfl, hwk, hs, hbw, HW'⟩
        case measure => simp [intOf]; omega
      | false =>
        rw [hsd] at hcs
        have HSD := Lib.hid hsd
        have hHW := Lib.hid (show Ws ++ (walk1 (leftF L (axL L)) N s d).1 :: walksF (leftF L (axL L)) (List.range' (d + 1) (N - (d + 1))) (walk1 (leftF L (axL L)) N s d).2 = walksL L by
          rw [← HW.out, show N - d = N - (d + 1) + 1 by omega, walksF_no hsd, hs.len])
        clear hsd HW
        have hu0 : unN s ≤ N := by rw [← hs.len]; exact unN_le s
        have hlt5 : w1.heap.size < wr.heap.size := hs.lt
        go_wp2_with fail
        obtain ⟨wo, rfl⟩ : ∃ wo : World, wo = wr := ⟨_, rfl⟩
        go_loopw [7, 8] (fun v7 v8 wi => ∃ (x p cP k : Nat) (AP : Option Addr) (P : List Nat) (si : List Bool), x < N ∧ v8 = .int .i64 x ∧ v7 = .slice AP p cP ∧ Own wi wo.heap.size AP p cP (natI P) ∧ OwnB wi w1.heap.size w1.heap.size N si ∧ wo.grownBy wi (some w1.heap.size) ∧ Below w1.heap.size w1 wi ∧ unN si ≤ k ∧ p + unN si = unN s ∧ Hid (P ++ (walk1 (leftF L (axL L)) k si x).1 = (walk1 (leftF L (axL L)) N s d).1 ∧ (walk1 (leftF L (axL L)) k si x).2 = (walk1 (leftF L (axL L)) N s d).2)) (fun v7 _ _ => N - lenOf2 v7)
        case atStart => exact ⟨d, 0, 0, N, none, [], s, hdN, rfl, rfl, Own.nil _ _, hs, World.grownBy.refl _ _, hbw, hu0, by omega, Lib.hid ⟨rfl, rfl⟩⟩
        case round =>
          obtain ⟨x, p, cP, k, AP, P, si, hx, rfl, rfl, hownP, hsi, hgr, hbi, huk, hpu, HP⟩ := hrel
          have j0 : (0 : Int) ≤ (x : Int) := by omega
          have j1 : (x : Int) < (N : Int) := by omega
          have hcx := hsi.cell hx
          have hfx := hsi.frozen x
          have hszi := hgr.size
          cases hsx : sat si x with
          | true =>
            rw [hsx] at hcx
            have hHP := HP.out
            rw [walk1_stop hsx] at hHP
            have HP2 := Lib.hid hHP
            clear hsx HP hHP
            have hwki := hwk.kept hgr (by omega)
            have hownI := hownP.ints
            have hpc := hownP.cap
            have hq1 : q + 1 ≤ 1000000 := by have := HNE.out; omega
            have hb1q : w1.heap.size + 1 ≤ wr.heap.size := by omega
            go_wp2_with (at_builtin; refine pushSV rfl _ _ rfl hwki.row AP p cP rfl rfl (q + 1) rfl hq1 hb1q ?_)
            intro A3 c3 w3 hr3 hg3 ha3
            have hwk3 := hwki.push (v := ⟨AP, p, cP⟩) (by rw [List.map_append]; exact hr3) rfl hg3 ha3 hownI hpc (fun k hk => ⟨by have := (hownP.lt k hk).1; omega, (hownP.lt k hk).2, fun e => by have := (hwk.row.lt k e).2; have := (hownP.lt k hk).1; omega⟩)
            have hsi3 := hsi.kept hg3 (by
              intro e
              have := (hwki.row.lt _ e.symm).1
              omega)
            have hb3 : Below w1.heap.size w1 w3 := below_chain hbi (B := w1.heap.size) (C := w1.heap.size + 1) ((Below.refl _ _).grown hg3 (by omega) (fun k hk => (hwki.row.lt k hk).1)) (by omega)
            have hHW3 := Lib.hid (show (Ws ++ [P]) ++ walksF (leftF L (axL L)) (List.range' (d + 1) (N - (d + 1))) si = walksL L by
              rw [← hHW.out, ← HP2.out.1, ← HP2.out.2]; simp)
            have hmap : Ws.map natI ++ [natI P] = (Ws ++ [P]).map natI := by simp
            rw [hmap] at hwk3
            clear hr3 hg3 ha3 hwki hownI hownP hsi hgr hbi hwk hs hbw hmap HP2 hHW hcx hfx hcs
            go_wp2_with fail
            go_roundw
            case rel => exact ⟨d + 1, q + 1, si, A3, c3, _, _, by omega, by omega, by go_num, rfl, hwk3, hsi3, hb3, hHW3⟩
            case measure => simp [intOf]; omega
          | false =>
            rw [hsx] at hcx
            obtain ⟨k, rfl⟩ : ∃ k', k = k' + 1 := ⟨k - 1, by have := unN_pos hsx; omega⟩
            have hus := unN_set hsx
            have hHP := HP.out
            rw [walk1_step hsx] at hHP
            have HP2 := Lib.hid (show (P ++ [x]) ++ (walk1 (leftF L (axL L)) k (si.set x true) (leftF L (axL L) x)).1 = (walk1 (leftF L (axL L)) N s d).1 ∧ (walk1 (leftF L (axL L)) k (si.set x true) (leftF L (axL L) x)).2 = (walk1 (leftF L (axL L)) N s d).2 by
              simpa using hHP)
            clear hsx HP hHP
            have hx64 : I64 (x : Int) := ⟨by omega, by omega⟩
            have HX64 := Lib.hid hx64
            clear hx64
            have g1 := only_setCell (World.grownBy.refl wr (some w1.heap.size)) (p := ⟨w1.heap.size, x, none⟩) (.inl rfl) (.bool true)
            have hownS : Own (wr.setCell ⟨w1.heap.size, x, none⟩ (.bool true)) wo.heap.size AP p cP (natI P) := hownP.kept g1 (by
              cases hb : blk AP with
              | none => exact .inl rfl
              | some q => exact .inr (by have := (hownP.lt q hb).1; simp; omega))
            have hsS := hsi.stored x true
            have hgS := only_setCell hgr (p := ⟨w1.heap.size, x, none⟩) (.inl rfl) (.bool true)
            have hbS := hbi.setCell (p := ⟨w1.heap.size, x, none⟩) (Nat.le_refl _) (.bool true)
            have hszS : (wr.setCell ⟨w1.heap.size, x, none⟩ (.bool true)).heap.size = wr.heap.size := by simp
            have hp17 : p < 17592186044416 := by omega
            clear g1 hownP hsi hgr hbi
            go_wp2_with (at_builtin; refine app1m rfl _ _ rfl hownS (x : Int) rfl wr.heap.size hszS rfl HX64.out hp17 (by omega) ?_)
            intro A4 c4 w4 hown4 hb4 _ _
            have hs4 := hsS.below hb4 hlt5
            have hg4 := only_below hgS hb4 (Nat.le_refl _)
            have hb4' := below_chain hbS hb4 (by omega)
            have hmap : natI P ++ [(x : Int)] = natI (P ++ [x]) := by simp [natI]
            rw [hmap] at hown4
            have hx' : leftF L (axL L) x < N := by rw [HN.out]; exact g.into (by rw [← HN.out]; exact hx)
            clear hownS hsS hgS hbS hb4 hmap hcx hfx hszS
            have k0 := (hb1'.moreB hb4' (by have := hb1'.size; omega)).c0
            have k1 := (hb1'.moreB hb4' (by have := hb1'.size; omega)).c1
            go_wp2_with fail
            refine (ref_Turn K x A A1 n c m c1 L _ (hA1.below hb4') g (hX.below hb4') (by rw [← HN.out]; exact hx)).mono ?_
            rintro e w5 ⟨rfl, hb5⟩
            have hs5 := hs4.below hb5 hs4.lt
            have hg5 := only_below hg4 hb5 hg4.size
            have hown5 := hown4.below hb5
            have hb5' := below_chain hb4' hb5 (by have := hb4'.size; omega)
            clear hs4 hg4 hown4 hb4' hb5 k0 k1
            generalize leftF L (axL L) x = x' at hx' HP2 ⊢
            have hsl : (si.set x true).length = N := hs5.len
            go_wp2_with fail
            go_roundw
            case rel => exact ⟨x', p + 1, c4, k, A4, P ++ [x], si.set x true, hx', rfl, rfl, hown5, hs5, hg5, hb5', by omega, by omega, HP2⟩
            case measure => simp [lenOf2]; omega
    · have hdN' : d = N := by omega
      subst hdN'
      have hWs : Ws = walksL L := by
        have := HW.out
        rw [Nat.sub_self] at this
        simpa [walksF] using this
      have hq : q = (walksL L).length := by rw [← hWs, ← hwk.len]; simp
      rw [hWs] at hwk
      subst hq
      have HW2 := Lib.hid hWs
      clear hWs HW
      go_wp2_with fail
      go_ret
      exact ⟨_, _, vs, rfl, hwk.mono (by have := hb1'.size; omega), below_chain hb1'.below hbw (by have := hb1'.size; omega)⟩
end

section
open Go.RowKit

theorem unwanted_step {c : Bool} {X Y : Prop} (h : c = false) (hy : Y) : if c = true then X else Y := by rw [h]; simpa using hy
theorem sm_yes {L : List Lt} {l : Lt} {j : Nat} (h : smB l (la L j) = true) : smN L l (j + 1) = smN L l j + 1 := countTo_yes h
theorem sm_no {L : List Lt} {l : Lt} {j : Nat} (h : smB l (la L j) = false) : smN L l (j + 1) = smN L l j := countTo_no h
theorem pr_yes {L : List Lt} {l : Lt} {j : Nat} (h : prB l (la L j) = true) : prN L l (j + 1) = prN L l j + 1 := countTo_yes h
theorem pr_no {L : List Lt} {l : Lt} {j : Nat} (h : prB l (la L j) = false) : prN L l (j + 1) = prN L l j := countTo_no h
theorem lettersR_no {K : Int} {L : List Lt} {k n : Nat} (hL : L.length = n) (hk : k < n) (h : rlB K L (la L k) = false) : lettersR K L = false := by
  unfold lettersR
  rw [hL]
  exact allTo_no hk h
set_option maxRecDepth 100000 in
set_option maxHeartbeats 32000000 in
theorem ref_letters (K : Int) (A : Option Addr) (n c : Nat) (L : List Lt) (w : World) (hA : Lets w A n L) (hn400 : n ≤ 1000) :
    Calls Tryd.prog 77 #[.agg #[.int .i64 K, .slice A n c]] w fun e w' => e = .returned (.bool (lettersR K L)) ∧ Below w.heap.size w w' := by
  have hle := hA.le
  have HL := Lib.hid hA.len
  have hbx := Boxed.refl w K A n c
  go_enter Tryd.func77, Tryd.ntmps77
  go_wp2_with fail
  go_loopw [3] (fun v3 wr => ∃ k : Nat, k ≤ n ∧ v3 = .int .i64 k ∧ Boxed w wr K A n c ∧ Hid (allTo (fun i => rlB K L (la L i)) k = true)) (fun v3 _ => n - (intOf v3).toNat)
  case atStart => exact ⟨0, Nat.zero_le _, rfl, hbx, Lib.hid rfl⟩
  case round =>
    obtain ⟨k, hk, rfl, hb, HK⟩ := hrel
    clear hbx
    by_cases hlt : k < n
    · have hk0 := hb.c0
      have hk1 := hb.c1
      obtain ⟨g, o, rfl, hg, hx, hok⟩ := (hA.below hb.below).at_ hlt
      obtain ⟨h0, h1, h2, h3, h4, h5⟩ := hx
      go_wp2_with fail
      obtain ⟨wo, rfl⟩ : ∃ wo : World, wo = wr := ⟨_, rfl⟩
      have hwl := (Below.refl wo.heap.size wo).alloc (Nat.le_refl _) (.cells #[.int .i64 (la L k).kind, .int .i64 (la L k).gate, .int .i64 (la L k).rank, .int .i64 (la L k).id, .int .i64 (la L k).sign, .bool (la L k).over] 46)
      have hblk := Blk.new wo 46 #[.int .i64 (la L k).kind, .int .i64 (la L k).gate, .int .i64 (la L k).rank, .int .i64 (la L k).id, .int .i64 (la L k).sign, .bool (la L k).over]
      go_loopw [5, 6, 7] (fun v5 v6 v7 wi => ∃ j : Nat, j ≤ n ∧ v7 = .int .i64 j ∧ v5 = .int .i64 (smN L (la L k) j) ∧ v6 = .int .i64 (prN L (la L k) j) ∧ Below wo.heap.size wo wi ∧ Blk wi wo.heap.size 46 #[.int .i64 (la L k).kind, .int .i64 (la L k).gate, .int .i64 (la L k).rank, .int .i64 (la L k).id, .int .i64 (la L k).sign, .bool (la L k).over]) (fun _ _ v7 _ => n - (intOf v7).toNat)
      case atStart => exact ⟨0, Nat.zero_le _, rfl, rfl, rfl, hwl, hblk⟩
      case round =>
        obtain ⟨j, hj, rfl, rfl, rfl, hbi, hbk⟩ := hrel
        clear hwl hblk
        have z0 := hbk.cell 0
        have z1 := hbk.cell 1
        have z2 := hbk.cell 2
        have z3 := hbk.cell 3
        have z4 := hbk.cell 4
        have z5 := hbk.cell 5
        simp at z0 z1 z2 z3 z4 z5
        have hbb := hb.more hbi
        have c0 := hbb.c0
        have c1 := hbb.c1
        have hsm : smN L (la L k) j ≤ j := countTo_le _ _
        have hpr : prN L (la L k) j ≤ j := countTo_le _ _
        have hltw := hbk.lt
        by_cases hjn : j < n
        · obtain ⟨y0, y1, y2, y3, y4, y5⟩ := ((hA.below hbb.below).also hjn).1
          have e1 : smN L (la L k) (j + 1) = smN L (la L k) j + (if smB (la L k) (la L j) then 1 else 0) := rfl
          have e2 : prN L (la L k) (j + 1) = prN L (la L k) j + (if prB (la L k) (la L j) then 1 else 0) := rfl
          have E1 := Lib.hid e1
          have E2 := Lib.hid e2
          clear e1 e2 h0 h1 h2 h3 h4 h5 hk0 hk1
          obtain ⟨l, hl⟩ : ∃ l, l = la L k := ⟨_, rfl⟩
          obtain ⟨r, hr⟩ : ∃ r, r = la L j := ⟨_, rfl⟩
          rw [← hl] at E1 E2 hbk hsm hpr z0 z1 z2 z3 z4 z5 ⊢
          rw [← hr] at E1 E2 y0 y1 y2 y3 y4 y5
          have HLK := Lib.hid hl
          have HRJ := Lib.hid hr
          clear hl hr
          go_upto_region 10 with fail
          generalize hW : World.alloc wr _ = W
          have hB8 : Blk W wr.heap.size 46 #[.int .i64 r.kind, .int .i64 r.gate, .int .i64 r.rank, .int .i64 r.id, .int .i64 r.sign, .bool r.over] := by rw [← hW]; exact Blk.new wr _ _
          have hB4 : Blk W wo.heap.size 46 #[.int .i64 l.kind, .int .i64 l.gate, .int .i64 l.rank, .int .i64 l.id, .int .i64 l.sign, .bool l.over] := by rw [← hW]; exact hbk.alloc _
          have hbW : Below wo.heap.size wo W := by rw [← hW]; exact hbi.alloc hbi.size _
          clear hW z0 z1 z2 z3 z4 z5 y0 y1 y2 y3 y4 y5 c0 c1
          have a0 : W.cell? ⟨wo.heap.size, 0, none⟩ = some (.int .i64 l.kind) := (hB4.cell 0).trans rfl
          have a1 : W.cell? ⟨wo.heap.size, 1, none⟩ = some (.int .i64 l.gate) := (hB4.cell 1).trans rfl
          have a2 : W.cell? ⟨wo.heap.size, 2, none⟩ = some (.int .i64 l.rank) := (hB4.cell 2).trans rfl
          have a3 : W.cell? ⟨wo.heap.size, 3, none⟩ = some (.int .i64 l.id) := (hB4.cell 3).trans rfl
          have a4 : W.cell? ⟨wo.heap.size, 4, none⟩ = some (.int .i64 l.sign) := (hB4.cell 4).trans rfl
          have a5 : W.cell? ⟨wo.heap.size, 5, none⟩ = some (.bool l.over) := (hB4.cell 5).trans rfl
          have b0 : W.cell? ⟨wr.heap.size, 0, none⟩ = some (.int .i64 r.kind) := (hB8.cell 0).trans rfl
          have b1 : W.cell? ⟨wr.heap.size, 1, none⟩ = some (.int .i64 r.gate) := (hB8.cell 1).trans rfl
          have b2 : W.cell? ⟨wr.heap.size, 2, none⟩ = some (.int .i64 r.rank) := (hB8.cell 2).trans rfl
          have b3 : W.cell? ⟨wr.heap.size, 3, none⟩ = some (.int .i64 r.id) := (hB8.cell 3).trans rfl
          have b4 : W.cell? ⟨wr.heap.size, 4, none⟩ = some (.int .i64 r.sign) := (hB8.cell 4).trans rfl
          have b5 : W.cell? ⟨wr.heap.size, 5, none⟩ = some (.bool r.over) := (hB8.cell 5).trans rfl
          go_cut [51] (fun v51 wv => v51 = .bool (smB l r) ∧ wv = W)
          case first =>
            rename_i hJ1 hM1
            obtain ⟨e1, he1⟩ : ∃ b, (r.kind == l.kind) = b := ⟨_, rfl⟩
            obtain ⟨e2, he2⟩ : ∃ b, (r.gate == l.gate) = b := ⟨_, rfl⟩
            obtain ⟨e3, he3⟩ : ∃ b, (r.rank == l.rank) = b := ⟨_, rfl⟩
            refine wk_region0 (C := fun w' => w' = W) 172 [(8, .pointer (some ⟨wr.heap.size, 0, none⟩)), (4, .pointer (some ⟨wo.heap.size, 0, none⟩))] rfl (by kernel_rfl) (by intro q hq; simp at hq; rcases hq with rfl | rfl <;> simp) (frm_same (frm_same rfl (by simp) rfl) (by simp) rfl) rfl ?_
            intro r0 hrc hrf
            refine wk_one (v := .pointer (some ⟨wr.heap.size, 0, none⟩)) rfl (fun w' hC => q_fa (p := .pointer (some ⟨wr.heap.size, 0, none⟩)) rfl rfl (fa_lt _ 0 0 (by decide) _)) ?_
            refine wk_one (v := .int .i64 r.kind) rfl (fun w' hC => q_ld (p := .pointer (some ⟨wr.heap.size, 0, none⟩)) rfl rfl (ld_kind (by rw [hC]; exact b0))) ?_
            refine wk_one (v := .pointer (some ⟨wo.heap.size, 0, none⟩)) rfl (fun w' hC => q_fa (p := .pointer (some ⟨wo.heap.size, 0, none⟩)) rfl rfl (fa_lt _ 0 0 (by decide) _)) ?_
            refine wk_one (v := .int .i64 l.kind) rfl (fun w' hC => q_ld (p := .pointer (some ⟨wo.heap.size, 0, none⟩)) rfl rfl (ld_kind (by rw [hC]; exact a0))) ?_
            refine wk_one (v := .bool (e1)) rfl (fun w' hC => q_bin (X := .int .i64 r.kind) (Y := .int .i64 l.kind) rfl rfl rfl (bo_eqlK he1)) ?_
            refine wk_one (v := .bool (e1)) rfl (fun w' hC => q_move rfl rfl) ?_
            refine wk_grd (b := e1) (v := .pointer (some ⟨wr.heap.size, 1, none⟩)) (want_t rfl rfl rfl) (fun h w' hC => q_fa (p := .pointer (some ⟨wr.heap.size, 0, none⟩)) rfl rfl (fa_lt _ 0 1 (by decide) _)) ?_
            refine wk_grd (b := e1) (v := .int .i64 r.gate) (want_t rfl rfl rfl) (fun h w' hC => q_ld (p := .pointer (some ⟨wr.heap.size, 1, none⟩)) rfl (cnd h) (ld_int (by rw [hC]; exact b1))) ?_
            refine wk_grd (b := e1) (v := .pointer (some ⟨wo.heap.size, 1, none⟩)) (want_t rfl rfl rfl) (fun h w' hC => q_fa (p := .pointer (some ⟨wo.heap.size, 0, none⟩)) rfl rfl (fa_lt _ 0 1 (by decide) _)) ?_
            refine wk_grd (b := e1) (v := .int .i64 l.gate) (want_t rfl rfl rfl) (fun h w' hC => q_ld (p := .pointer (some ⟨wo.heap.size, 1, none⟩)) rfl (cnd h) (ld_int (by rw [hC]; exact a1))) ?_
            refine wk_grd (b := e1) (v := .bool (e2)) (want_t rfl rfl rfl) (fun h w' hC => q_bin (X := .int .i64 r.gate) (Y := .int .i64 l.gate) rfl (cnd h) (cnd h) (bo_eql he2)) ?_
            refine wk_one (v := .bool (e1 && e2)) rfl (fun w' hC => q_and rfl (fun _ => hrc _) rfl rfl) ?_
            refine wk_one (v := .bool (e1 && e2)) rfl (fun w' hC => q_move rfl rfl) ?_
            refine wk_grd (b := e1 && e2) (v := .pointer (some ⟨wr.heap.size, 2, none⟩)) (want_t rfl rfl rfl) (fun h w' hC => q_fa (p := .pointer (some ⟨wr.heap.size, 0, none⟩)) rfl rfl (fa_lt _ 0 2 (by decide) _)) ?_
            refine wk_grd (b := e1 && e2) (v := .int .i64 r.rank) (want_t rfl rfl rfl) (fun h w' hC => q_ld (p := .pointer (some ⟨wr.heap.size, 2, none⟩)) rfl (cnd h) (ld_int (by rw [hC]; exact b2))) ?_
            refine wk_grd (b := e1 && e2) (v := .pointer (some ⟨wo.heap.size, 2, none⟩)) (want_t rfl rfl rfl) (fun h w' hC => q_fa (p := .pointer (some ⟨wo.heap.size, 0, none⟩)) rfl rfl (fa_lt _ 0 2 (by decide) _)) ?_
            refine wk_grd (b := e1 && e2) (v := .int .i64 l.rank) (want_t rfl rfl rfl) (fun h w' hC => q_ld (p := .pointer (some ⟨wo.heap.size, 2, none⟩)) rfl (cnd h) (ld_int (by rw [hC]; exact a2))) ?_
            refine wk_grd (b := e1 && e2) (v := .bool (e3)) (want_t rfl rfl rfl) (fun h w' hC => q_bin (X := .int .i64 r.rank) (Y := .int .i64 l.rank) rfl (cnd h) (cnd h) (bo_eql he3)) ?_
            refine wk_one (v := .bool ((e1 && e2) && e3)) rfl (fun w' hC => q_and rfl (fun _ => hrc _) rfl rfl) ?_
            intro wx hwx
            have hf := Lib.hid (show ((e1 && e2) && e3) = smB l r by subst he1 he2 he3; rfl)
            clear hrc hrf r0
            rw [frm_upd]
            refine hM1 _ _ (Met.intro (hJ1 _ _ ?_))
            repeat apply Exists.intro
            refine ⟨?rel, rfl⟩
            case rel => exact ⟨congrArg Value.bool hf.out, hwx⟩
          case rest =>
            obtain ⟨rfl, hv⟩ := hcut
            obtain rfl := hv.symm
            cases hs : smB l r with
            | true =>
              rw [hs] at E1
              have HS := Lib.hid hs
              clear hs
              go_upto_region 12 with fail
              go_cut [79] (fun v79 wv => v79 = .bool (prB l r) ∧ wv = W)
              case first =>
                rename_i hJ1 hM1
                obtain ⟨e1, he1⟩ : ∃ b, (r.kind == l.kind) = b := ⟨_, rfl⟩
                obtain ⟨e2, he2⟩ : ∃ b, (r.id == l.id) = b := ⟨_, rfl⟩
                obtain ⟨e3, he3⟩ : ∃ b, (r.sign == l.sign) = b := ⟨_, rfl⟩
                obtain ⟨e4, he4⟩ : ∃ b, (r.over != l.over) = b := ⟨_, rfl⟩
                refine wk_region0 (C := fun w' => w' = W) 172 [(8, .pointer (some ⟨wr.heap.size, 0, none⟩)), (4, .pointer (some ⟨wo.heap.size, 0, none⟩))] rfl (by kernel_rfl) (by intro q hq; simp at hq; rcases hq with rfl | rfl <;> simp) (frm_same (frm_same rfl (by simp) rfl) (by simp) rfl) rfl ?_
                intro r0 hrc hrf
                refine wk_one (v := .pointer (some ⟨wr.heap.size, 0, none⟩)) rfl (fun w' hC => q_fa (p := .pointer (some ⟨wr.heap.size, 0, none⟩)) rfl rfl (fa_lt _ 0 0 (by decide) _)) ?_
                refine wk_one (v := .int .i64 r.kind) rfl (fun w' hC => q_ld (p := .pointer (some ⟨wr.heap.size, 0, none⟩)) rfl rfl (ld_kind (by rw [hC]; exact b0))) ?_
                refine wk_one (v := .pointer (some ⟨wo.heap.size, 0, none⟩)) rfl (fun w' hC => q_fa (p := .pointer (some ⟨wo.heap.size, 0, none⟩)) rfl rfl (fa_lt _ 0 0 (by decide) _)) ?_
                refine wk_one (v := .int .i64 l.kind) rfl (fun w' hC => q_ld (p := .pointer (some ⟨wo.heap.size, 0, none⟩)) rfl rfl (ld_kind (by rw [hC]; exact a0))) ?_
                refine wk_one (v := .bool (e1)) rfl (fun w' hC => q_bin (X := .int .i64 r.kind) (Y := .int .i64 l.kind) rfl rfl rfl (bo_eqlK he1)) ?_
                refine wk_one (v := .bool (e1)) rfl (fun w' hC => q_move rfl rfl) ?_
                refine wk_grd (b := e1) (v := .pointer (some ⟨wr.heap.size, 3, none⟩)) (want_t rfl rfl rfl) (fun h w' hC => q_fa (p := .pointer (some ⟨wr.heap.size, 0, none⟩)) rfl rfl (fa_lt _ 0 3 (by decide) _)) ?_
                refine wk_grd (b := e1) (v := .int .i64 r.id) (want_t rfl rfl rfl) (fun h w' hC => q_ld (p := .pointer (some ⟨wr.heap.size, 3, none⟩)) rfl (cnd h) (ld_int (by rw [hC]; exact b3))) ?_
                refine wk_grd (b := e1) (v := .pointer (some ⟨wo.heap.size, 3, none⟩)) (want_t rfl rfl rfl) (fun h w' hC => q_fa (p := .pointer (some ⟨wo.heap.size, 0, none⟩)) rfl rfl (fa_lt _ 0 3 (by decide) _)) ?_
                refine wk_grd (b := e1) (v := .int .i64 l.id) (want_t rfl rfl rfl) (fun h w' hC => q_ld (p := .pointer (some ⟨wo.heap.size, 3, none⟩)) rfl (cnd h) (ld_int (by rw [hC]; exact a3))) ?_
                refine wk_grd (b := e1) (v := .bool (e2)) (want_t rfl rfl rfl) (fun h w' hC => q_bin (X := .int .i64 r.id) (Y := .int .i64 l.id) rfl (cnd h) (cnd h) (bo_eql he2)) ?_
                refine wk_one (v := .bool (e1 && e2)) rfl (fun w' hC => q_and rfl (fun _ => hrc _) rfl rfl) ?_
                refine wk_one (v := .bool (e1 && e2)) rfl (fun w' hC => q_move rfl rfl) ?_
                refine wk_grd (b := e1 && e2) (v := .pointer (some ⟨wr.heap.size, 4, none⟩)) (want_t rfl rfl rfl) (fun h w' hC => q_fa (p := .pointer (some ⟨wr.heap.size, 0, none⟩)) rfl rfl (fa_lt _ 0 4 (by decide) _)) ?_
                refine wk_grd (b := e1 && e2) (v := .int .i64 r.sign) (want_t rfl rfl rfl) (fun h w' hC => q_ld (p := .pointer (some ⟨wr.heap.size, 4, none⟩)) rfl (cnd h) (ld_int (by rw [hC]; exact b4))) ?_
                refine wk_grd (b := e1 && e2) (v := .pointer (some ⟨wo.heap.size, 4, none⟩)) (want_t rfl rfl rfl) (fun h w' hC => q_fa (p := .pointer (some ⟨wo.heap.size, 0, none⟩)) rfl rfl (fa_lt _ 0 4 (by decide) _)) ?_
                refine wk_grd (b := e1 && e2) (v := .int .i64 l.sign) (want_t rfl rfl rfl) (fun h w' hC => q_ld (p := .pointer (some ⟨wo.heap.size, 4, none⟩)) rfl (cnd h) (ld_int (by rw [hC]; exact a4))) ?_
                refine wk_grd (b := e1 && e2) (v := .bool (e3)) (want_t rfl rfl rfl) (fun h w' hC => q_bin (X := .int .i64 r.sign) (Y := .int .i64 l.sign) rfl (cnd h) (cnd h) (bo_eql he3)) ?_
                refine wk_one (v := .bool ((e1 && e2) && e3)) rfl (fun w' hC => q_and rfl (fun _ => hrc _) rfl rfl) ?_
                refine wk_one (v := .bool ((e1 && e2) && e3)) rfl (fun w' hC => q_move rfl rfl) ?_
                refine wk_grd (b := (e1 && e2) && e3) (v := .pointer (some ⟨wr.heap.size, 5, none⟩)) (want_t rfl rfl rfl) (fun h w' hC => q_fa (p := .pointer (some ⟨wr.heap.size, 0, none⟩)) rfl rfl (fa_lt _ 0 5 (by decide) _)) ?_
                refine wk_grd (b := (e1 && e2) && e3) (v := .bool (r.over)) (want_t rfl rfl rfl) (fun h w' hC => q_ld (p := .pointer (some ⟨wr.heap.size, 5, none⟩)) rfl (cnd h) (ld_bool (by rw [hC]; exact b5))) ?_
                refine wk_grd (b := (e1 && e2) && e3) (v := .pointer (some ⟨wo.heap.size, 5, none⟩)) (want_t rfl rfl rfl) (fun h w' hC => q_fa (p := .pointer (some ⟨wo.heap.size, 0, none⟩)) rfl rfl (fa_lt _ 0 5 (by decide) _)) ?_
                refine wk_grd (b := (e1 && e2) && e3) (v := .bool (l.over)) (want_t rfl rfl rfl) (fun h w' hC => q_ld (p := .pointer (some ⟨wo.heap.size, 5, none⟩)) rfl (cnd h) (ld_bool (by rw [hC]; exact a5))) ?_
                refine wk_grd (b := (e1 && e2) && e3) (v := .bool (e4)) (want_t rfl rfl rfl) (fun h w' hC => q_bin (X := .bool (r.over)) (Y := .bool (l.over)) rfl (cnd h) (cnd h) (bo_neqB he4)) ?_
                refine wk_one (v := .bool (((e1 && e2) && e3) && e4)) rfl (fun w' hC => q_and rfl (fun _ => hrc _) rfl rfl) ?_
                intro wx hwx
                have hf := Lib.hid (show (((e1 && e2) && e3) && e4) = prB l r by subst he1 he2 he3 he4; rfl)
                clear hrc hrf r0
                rw [frm_upd]
                refine hM1 _ _ (Met.intro (hJ1 _ _ ?_))
                repeat apply Exists.intro
                refine ⟨?rel, rfl⟩
                case rel => exact ⟨congrArg Value.bool hf.out, hwx⟩
              case rest =>
                obtain ⟨rfl, hv⟩ := hcut
                obtain rfl := hv.symm
                cases hp : prB l r with
                | true =>
                  rw [hp] at E2
                  have HP := Lib.hid hp
                  clear hp
                  go_wp2_with fail
                  go_roundw
                  case rel => exact ⟨j + 1, by omega, by go_num, by rw [E1.out]; go_num, by rw [E2.out]; go_num, hbW, hB4⟩
                  case measure => simp [intOf]; omega
                | false =>
                  rw [hp] at E2
                  have HP := Lib.hid hp
                  clear hp
                  go_wp2_with fail
                  go_roundw
                  case rel => exact ⟨j + 1, by omega, by go_num, by rw [E1.out]; go_num, by rw [E2.out]; rfl, hbW, hB4⟩
                  case measure => simp [intOf]; omega
            | false =>
              rw [hs] at E1
              have HS := Lib.hid hs
              clear hs
              go_upto_region 12 with fail
              go_cut [79] (fun v79 wv => v79 = .bool (prB l r) ∧ wv = W)
              case first =>
                rename_i hJ1 hM1
                obtain ⟨e1, he1⟩ : ∃ b, (r.kind == l.kind) = b := ⟨_, rfl⟩
                obtain ⟨e2, he2⟩ : ∃ b, (r.id == l.id) = b := ⟨_, rfl⟩
                obtain ⟨e3, he3⟩ : ∃ b, (r.sign == l.sign) = b := ⟨_, rfl⟩
                obtain ⟨e4, he4⟩ : ∃ b, (r.over != l.over) = b := ⟨_, rfl⟩
                refine wk_region0 (C := fun w' => w' = W) 172 [(8, .pointer (some ⟨wr.heap.size, 0, none⟩)), (4, .pointer (some ⟨wo.heap.size, 0, none⟩))] rfl (by kernel_rfl) (by intro q hq; simp at hq; rcases hq with rfl | rfl <;> simp) (frm_same (frm_same rfl (by simp) rfl) (by simp) rfl) rfl ?_
                intro r0 hrc hrf
                refine wk_one (v := .pointer (some ⟨wr.heap.size, 0, none⟩)) rfl (fun w' hC => q_fa (p := .pointer (some ⟨wr.heap.size, 0, none⟩)) rfl rfl (fa_lt _ 0 0 (by decide) _)) ?_
                refine wk_one (v := .int .i64 r.kind) rfl (fun w' hC => q_ld (p := .pointer (some ⟨wr.heap.size, 0, none⟩)) rfl rfl (ld_kind (by rw [hC]; exact b0))) ?_
                refine wk_one (v := .pointer (some ⟨wo.heap.size, 0, none⟩)) rfl (fun w' hC => q_fa (p := .pointer (some ⟨wo.heap.size, 0, none⟩)) rfl rfl (fa_lt _ 0 0 (by decide) _)) ?_
                refine wk_one (v := .int .i64 l.kind) rfl (fun w' hC => q_ld (p := .pointer (some ⟨wo.heap.size, 0, none⟩)) rfl rfl (ld_kind (by rw [hC]; exact a0))) ?_
                refine wk_one (v := .bool (e1)) rfl (fun w' hC => q_bin (X := .int .i64 r.kind) (Y := .int .i64 l.kind) rfl rfl rfl (bo_eqlK he1)) ?_
                refine wk_one (v := .bool (e1)) rfl (fun w' hC => q_move rfl rfl) ?_
                refine wk_grd (b := e1) (v := .pointer (some ⟨wr.heap.size, 3, none⟩)) (want_t rfl rfl rfl) (fun h w' hC => q_fa (p := .pointer (some ⟨wr.heap.size, 0, none⟩)) rfl rfl (fa_lt _ 0 3 (by decide) _)) ?_
                refine wk_grd (b := e1) (v := .int .i64 r.id) (want_t rfl rfl rfl) (fun h w' hC => q_ld (p := .pointer (some ⟨wr.heap.size, 3, none⟩)) rfl (cnd h) (ld_int (by rw [hC]; exact b3))) ?_
                refine wk_grd (b := e1) (v := .pointer (some ⟨wo.heap.size, 3, none⟩)) (want_t rfl rfl rfl) (fun h w' hC => q_fa (p := .pointer (some ⟨wo.heap.size, 0, none⟩)) rfl rfl (fa_lt _ 0 3 (by decide) _)) ?_
                refine wk_grd (b := e1) (v := .int .i64 l.id) (want_t rfl rfl rfl) (fun h w' hC => q_ld (p := .pointer (some ⟨wo.heap.size, 3, none⟩)) rfl (cnd h) (ld_int (by rw [hC]; exact a3))) ?_
                refine wk_grd (b := e1) (v := .bool (e2)) (want_t rfl rfl rfl) (fun h w' hC => q_bin (X := .int .i64 r.id) (Y := .int .i64 l.id) rfl (cnd h) (cnd h) (bo_eql he2)) ?_
                refine wk_one (v := .bool (e1 && e2)) rfl (fun w' hC => q_and rfl (fun _ => hrc _) rfl rfl) ?_
                refine wk_one (v := .bool (e1 && e2)) rfl (fun w' hC => q_move rfl rfl) ?_
                refine wk_grd (b := e1 && e2) (v := .pointer (some ⟨wr.heap.size, 4, none⟩)) (want_t rfl rfl rfl) (fun h w' hC => q_fa (p := .pointer (some ⟨wr.heap.size, 0, none⟩)) rfl rfl (fa_lt _ 0 4 (by decide) _)) ?_
                refine wk_grd (b := e1 && e2) (v := .int .i64 r.sign) (want_t rfl rfl rfl) (fun h w' hC => q_ld (p := .pointer (some ⟨wr.heap.size, 4, none⟩)) rfl (cnd h) (ld_int (by rw [hC]; exact b4))) ?_
                refine wk_grd (b := e1 && e2) (v := .pointer (some ⟨wo.heap.size, 4, none⟩)) (want_t rfl rfl rfl) (fun h w' hC => q_fa (p := .pointer (some ⟨wo.heap.size, 0, none⟩)) rfl rfl (fa_lt _ 0 4 (by decide) _)) ?_
                refine wk_grd (b := e1 && e2) (v := .int .i64 l.sign) (want_t rfl rfl rfl) (fun h w' hC => q_ld (p := .pointer (some ⟨wo.heap.size, 4, none⟩)) rfl (cnd h) (ld_int (by rw [hC]; exact a4))) ?_
                refine wk_grd (b := e1 && e2) (v := .bool (e3)) (want_t rfl rfl rfl) (fun h w' hC => q_bin (X := .int .i64 r.sign) (Y := .int .i64 l.sign) rfl (cnd h) (cnd h) (bo_eql he3)) ?_
                refine wk_one (v := .bool ((e1 && e2) && e3)) rfl (fun w' hC => q_and rfl (fun _ => hrc _) rfl rfl) ?_
                refine wk_one (v := .bool ((e1 && e2) && e3)) rfl (fun w' hC => q_move rfl rfl) ?_
                refine wk_grd (b := (e1 && e2) && e3) (v := .pointer (some ⟨wr.heap.size, 5, none⟩)) (want_t rfl rfl rfl) (fun h w' hC => q_fa (p := .pointer (some ⟨wr.heap.size, 0, none⟩)) rfl rfl (fa_lt _ 0 5 (by decide) _)) ?_
                refine wk_grd (b := (e1 && e2) && e3) (v := .bool (r.over)) (want_t rfl rfl rfl) (fun h w' hC => q_ld (p := .pointer (some ⟨wr.heap.size, 5, none⟩)) rfl (cnd h) (ld_bool (by rw [hC]; exact b5))) ?_
                refine wk_grd (b := (e1 && e2) && e3) (v := .pointer (some ⟨wo.heap.size, 5, none⟩)) (want_t rfl rfl rfl) (fun h w' hC => q_fa (p := .pointer (some ⟨wo.heap.size, 0, none⟩)) rfl rfl (fa_lt _ 0 5 (by decide) _)) ?_
                refine wk_grd (b := (e1 && e2) && e3) (v := .bool (l.over)) (want_t rfl rfl rfl) (fun h w' hC => q_ld (p := .pointer (some ⟨wo.heap.size, 5, none⟩)) rfl (cnd h) (ld_bool (by rw [hC]; exact a5))) ?_
                refine wk_grd (b := (e1 && e2) && e3) (v := .bool (e4)) (want_t rfl rfl rfl) (fun h w' hC => q_bin (X := .bool (r.over)) (Y := .bool (l.over)) rfl (cnd h) (cnd h) (bo_neqB he4)) ?_
                refine wk_one (v := .bool (((e1 && e2) && e3) && e4)) rfl (fun w' hC => q_and rfl (fun _ => hrc _) rfl rfl) ?_
                intro wx hwx
                have hf := Lib.hid (show (((e1 && e2) && e3) && e4) = prB l r by subst he1 he2 he3 he4; rfl)
                clear hrc hrf r0
                rw [frm_upd]
                refine hM1 _ _ (Met.intro (hJ1 _ _ ?_))
                repeat apply Exists.intro
                refine ⟨?rel, rfl⟩
                case rel => exact ⟨congrArg Value.bool hf.out, hwx⟩
              case rest =>
                obtain ⟨rfl, hv⟩ := hcut
                obtain rfl := hv.symm
                cases hp : prB l r with
                | true =>
                  rw [hp] at E2
                  have HP := Lib.hid hp
                  clear hp
                  go_wp2_with fail
                  go_roundw
                  case rel => exact ⟨j + 1, by omega, by go_num, by rw [E1.out]; rfl, by rw [E2.out]; go_num, hbW, hB4⟩
                  case measure => simp [intOf]; omega
                | false =>
                  rw [hp] at E2
                  have HP := Lib.hid hp
                  clear hp
                  go_wp2_with fail
                  go_roundw
                  case rel => exact ⟨j + 1, by omega, by go_num, by rw [E1.out]; rfl, by rw [E2.out]; rfl, hbW, hB4⟩
                  case measure => simp [intOf]; omega
        · have hjn' : j = n := by omega
          subst hjn'
          have hkl := HL.out
          have hAj := hA.below hbb.below
          obtain ⟨l, hl⟩ : ∃ l, l = la L k := ⟨_, rfl⟩
          have HLK := Lib.hid hl
          rw [← hl] at hbk hsm hpr hok z0 z1 z2 z3 z4 z5 ⊢
          have hno := Lib.hid (show rlB K L l = false → lettersR K L = false from fun h => lettersR_no hkl hlt (by rw [← HLK.out]; exact h))
          have hyes := Lib.hid (show rlB K L l = true → allTo (fun i => rlB K L (la L i)) (k + 1) = true from fun h => allTo_step HK.out (by rw [← HLK.out]; exact h))
          clear hl hk0 hk1 h0 h1 h2 h3 h4 h5 HK
          have hltb : w.heap.size < wr.heap.size := World.block_lt_of_cell? _ _ c0
          by_cases hp : l.kind = 1
          · have hkk := Lib.hid hp
            have hp1 : (l.kind == 1) = true := by simpa using hp
            clear hp
            obtain ⟨a1, ha1⟩ : ∃ b, (l.id != 0) = b := ⟨_, rfl⟩
            obtain ⟨a2, ha2⟩ : ∃ b, (l.sign != 0) = b := ⟨_, rfl⟩
            obtain ⟨a3, ha3⟩ : ∃ b, decide (l.gate < 0) = b := ⟨_, rfl⟩
            obtain ⟨a4, ha4⟩ : ∃ b, decide (K < l.gate) = b := ⟨_, rfl⟩
            obtain ⟨a5, ha5⟩ : ∃ b, decide (l.rank < 1) = b := ⟨_, rfl⟩
            obtain ⟨a6, ha6⟩ : ∃ b, decide (((gN L l.gate j : Nat) : Int) < l.rank) = b := ⟨_, rfl⟩
            obtain ⟨a7, ha7⟩ : ∃ b, (((smN L l j : Nat) : Int) != 1) = b := ⟨_, rfl⟩
            go_upto_region 17 with fail
            go_cut [127] (fun v127 wx => v127 = .bool (!rlB K L l) ∧ Below wr.heap.size wr wx)
            case first =>
              rename_i hJ1 hM1
              refine wk_region (C := fun w' => Below wr.heap.size wr w') 172 [(4, .pointer (some ⟨wo.heap.size, 0, none⟩)), (1, .pointer (some ⟨w.heap.size, 0, none⟩)), (5, .int .i64 (smN L l j : Nat)), (6, .int .i64 (prN L l j : Nat))] (by kernel_rfl) (by kernel_rfl) rfl (by kernel_rfl) (by intro q hq; simp at hq; rcases hq with rfl | rfl | rfl | rfl <;> simp) (frm_same (frm_same (frm_same (frm_same rfl (by simp) rfl) (by simp) rfl) (by simp) rfl) (by simp) rfl) ((Below.refl _ _).drew) ?_
              intro r hrc hrf
              refine wk_one (v := .pointer (some ⟨wo.heap.size, 3, none⟩)) rfl (fun w' hC => q_fa (p := .pointer (some ⟨wo.heap.size, 0, none⟩)) rfl rfl (fa_lt _ 0 3 (by decide) _)) ?_
              refine wk_one (v := .int .i64 l.id) rfl (fun w' hC => q_ld (p := .pointer (some ⟨wo.heap.size, 3, none⟩)) rfl rfl (ld_int ((hC.cell (p := ⟨wo.heap.size, 3, none⟩) hltw).trans z3))) ?_
              refine wk_one (v := .bool (a1)) rfl (fun w' hC => q_bin (X := .int .i64 l.id) (Y := .int .i64 0) rfl rfl (hrc _) (bo_neq ha1)) ?_
              refine wk_one (v := .bool (a1)) rfl (fun w' hC => q_move rfl rfl) ?_
              refine wk_grd (b := !(a1)) (v := .pointer (some ⟨wo.heap.size, 4, none⟩)) (want_f rfl rfl rfl) (fun h w' hC => q_fa (p := .pointer (some ⟨wo.heap.size, 0, none⟩)) rfl rfl (fa_lt _ 0 4 (by decide) _)) ?_
              refine wk_grd (b := !(a1)) (v := .int .i64 l.sign) (want_f rfl rfl rfl) (fun h w' hC => q_ld (p := .pointer (some ⟨wo.heap.size, 4, none⟩)) rfl (cnd h) (ld_int ((hC.cell (p := ⟨wo.heap.size, 4, none⟩) hltw).trans z4))) ?_
              refine wk_grd (b := !(a1)) (v := .bool (a2)) (want_f rfl rfl rfl) (fun h w' hC => q_bin (X := .int .i64 l.sign) (Y := .int .i64 0) rfl (cnd h) (hrc _) (bo_neq ha2)) ?_
              refine wk_one (v := .bool (a1 || a2)) rfl (fun w' hC => q_or rfl (fun _ => hrc _) rfl rfl) ?_
              refine wk_one (v := .bool (a1 || a2)) rfl (fun w' hC => q_move rfl rfl) ?_
              refine wk_grd (b := !(a1 || a2)) (v := .pointer (some ⟨wo.heap.size, 5, none⟩)) (want_f rfl rfl rfl) (fun h w' hC => q_fa (p := .pointer (some ⟨wo.heap.size, 0, none⟩)) rfl rfl (fa_lt _ 0 5 (by decide) _)) ?_
              refine wk_grd (b := !(a1 || a2)) (v := .bool (l.over)) (want_f rfl rfl rfl) (fun h w' hC => q_ld (p := .pointer (some ⟨wo.heap.size, 5, none⟩)) rfl (cnd h) (ld_bool ((hC.cell (p := ⟨wo.heap.size, 5, none⟩) hltw).trans z5))) ?_
              refine wk_one (v := .bool ((a1 || a2) || l.over)) rfl (fun w' hC => q_or rfl (fun _ => hrc _) rfl rfl) ?_
              refine wk_one (v := .bool ((a1 || a2) || l.over)) rfl (fun w' hC => q_move rfl rfl) ?_
              refine wk_grd (b := !((a1 || a2) || l.over)) (v := .pointer (some ⟨wo.heap.size, 1, none⟩)) (want_f rfl rfl rfl) (fun h w' hC => q_fa (p := .pointer (some ⟨wo.heap.size, 0, none⟩)) rfl rfl (fa_lt _ 0 1 (by decide) _)) ?_
              refine wk_grd (b := !((a1 || a2) || l.over)) (v := .int .i64 l.gate) (want_f rfl rfl rfl) (fun h w' hC => q_ld (p := .pointer (some ⟨wo.heap.size, 1, none⟩)) rfl (cnd h) (ld_int ((hC.cell (p := ⟨wo.heap.size, 1, none⟩) hltw).trans z1))) ?_
              refine wk_grd (b := !((a1 || a2) || l.over)) (v := .bool (a3)) (want_f rfl rfl rfl) (fun h w' hC => q_bin (X := .int .i64 l.gate) (Y := .int .i64 0) rfl (cnd h) (hrc _) (bo_lss ha3)) ?_
              refine wk_one (v := .bool (((a1 || a2) || l.over) || a3)) rfl (fun w' hC => q_or rfl (fun _ => hrc _) rfl rfl) ?_
              refine wk_one (v := .bool (((a1 || a2) || l.over) || a3)) rfl (fun w' hC => q_move rfl rfl) ?_
              refine wk_grd (b := !(((a1 || a2) || l.over) || a3)) (v := .pointer (some ⟨wo.heap.size, 1, none⟩)) (want_f rfl rfl rfl) (fun h w' hC => q_fa (p := .pointer (some ⟨wo.heap.size, 0, none⟩)) rfl rfl (fa_lt _ 0 1 (by decide) _)) ?_
              refine wk_grd (b := !(((a1 || a2) || l.over) || a3)) (v := .int .i64 l.gate) (want_f rfl rfl rfl) (fun h w' hC => q_ld (p := .pointer (some ⟨wo.heap.size, 1, none⟩)) rfl (cnd h) (ld_int ((hC.cell (p := ⟨wo.heap.size, 1, none⟩) hltw).trans z1))) ?_
              refine wk_grd (b := !(((a1 || a2) || l.over) || a3)) (v := .pointer (some ⟨w.heap.size, 0, none⟩)) (want_f rfl rfl rfl) (fun h w' hC => q_fa (p := .pointer (some ⟨w.heap.size, 0, none⟩)) rfl rfl (fa_code _ 0 0 (by decide) _)) ?_
              refine wk_grd (b := !(((a1 || a2) || l.over) || a3)) (v := .int .i64 K) (want_f rfl rfl rfl) (fun h w' hC => q_ld (p := .pointer (some ⟨w.heap.size, 0, none⟩)) rfl (cnd h) (ld_int ((hC.cell (p := ⟨w.heap.size, 0, none⟩) hltb).trans c0))) ?_
              refine wk_grd (b := !(((a1 || a2) || l.over) || a3)) (v := .bool (a4)) (want_f rfl rfl rfl) (fun h w' hC => q_bin (X := .int .i64 l.gate) (Y := .int .i64 K) rfl (cnd h) (cnd h) (bo_gtr ha4)) ?_
              refine wk_one (v := .bool ((((a1 || a2) || l.over) || a3) || a4)) rfl (fun w' hC => q_or rfl (fun _ => hrc _) rfl rfl) ?_
              refine wk_one (v := .bool ((((a1 || a2) || l.over) || a3) || a4)) rfl (fun w' hC => q_move rfl rfl) ?_
              refine wk_grd (b := !((((a1 || a2) || l.over) || a3) || a4)) (v := .pointer (some ⟨wo.heap.size, 2, none⟩)) (want_f rfl rfl rfl) (fun h w' hC => q_fa (p := .pointer (some ⟨wo.heap.size, 0, none⟩)) rfl rfl (fa_lt _ 0 2 (by decide) _)) ?_
              refine wk_grd (b := !((((a1 || a2) || l.over) || a3) || a4)) (v := .int .i64 l.rank) (want_f rfl rfl rfl) (fun h w' hC => q_ld (p := .pointer (some ⟨wo.heap.size, 2, none⟩)) rfl (cnd h) (ld_int ((hC.cell (p := ⟨wo.heap.size, 2, none⟩) hltw).trans z2))) ?_
              refine wk_grd (b := !((((a1 || a2) || l.over) || a3) || a4)) (v := .bool (a5)) (want_f rfl rfl rfl) (fun h w' hC => q_bin (X := .int .i64 l.rank) (Y := .int .i64 1) rfl (cnd h) (hrc _) (bo_lss ha5)) ?_
              refine wk_one (v := .bool (((((a1 || a2) || l.over) || a3) || a4) || a5)) rfl (fun w' hC => q_or rfl (fun _ => hrc _) rfl rfl) ?_
              refine wk_one (v := .bool (((((a1 || a2) || l.over) || a3) || a4) || a5)) rfl (fun w' hC => q_move rfl rfl) ?_
              refine wk_grd (b := !(((((a1 || a2) || l.over) || a3) || a4) || a5)) (v := .pointer (some ⟨wo.heap.size, 2, none⟩)) (want_f rfl rfl rfl) (fun h w' hC => q_fa (p := .pointer (some ⟨wo.heap.size, 0, none⟩)) rfl rfl (fa_lt _ 0 2 (by decide) _)) ?_
              refine wk_grd (b := !(((((a1 || a2) || l.over) || a3) || a4) || a5)) (v := .int .i64 l.rank) (want_f rfl rfl rfl) (fun h w' hC => q_ld (p := .pointer (some ⟨wo.heap.size, 2, none⟩)) rfl (cnd h) (ld_int ((hC.cell (p := ⟨wo.heap.size, 2, none⟩) hltw).trans z2))) ?_
              refine wk_grd (b := !(((((a1 || a2) || l.over) || a3) || a4) || a5)) (v := .agg #[.int .i64 K, .slice (some ⟨g, o, none⟩) j c]) (want_f rfl rfl rfl) (fun h w' hC => q_ld (p := .pointer (some ⟨w.heap.size, 0, none⟩)) rfl rfl (ld_code ((hC.cell (p := ⟨w.heap.size, 0, none⟩) hltb).trans c0) ((hC.cell (p := ⟨w.heap.size, 1, none⟩) hltb).trans c1))) ?_
              refine wk_grd (b := !(((((a1 || a2) || l.over) || a3) || a4) || a5)) (v := .pointer (some ⟨wo.heap.size, 1, none⟩)) (want_f rfl rfl rfl) (fun h w' hC => q_fa (p := .pointer (some ⟨wo.heap.size, 0, none⟩)) rfl rfl (fa_lt _ 0 1 (by decide) _)) ?_
              refine wk_grd (b := !(((((a1 || a2) || l.over) || a3) || a4) || a5)) (v := .int .i64 l.gate) (want_f rfl rfl rfl) (fun h w' hC => q_ld (p := .pointer (some ⟨wo.heap.size, 1, none⟩)) rfl (cnd h) (ld_int ((hC.cell (p := ⟨wo.heap.size, 1, none⟩) hltw).trans z1))) ?_
              refine wk_grd (b := !(((((a1 || a2) || l.over) || a3) || a4) || a5)) (v := .int .i64 (gN L l.gate j : Nat)) (want_f rfl rfl rfl) (fun h w' hC => q_call (vs := #[.agg #[.int .i64 K, .slice (some ⟨g, o, none⟩) j c], .int .i64 l.gate]) rfl (hrf _) (map2 (cnd h) (cnd h)) (en_In _ _) ((ref_In K l.gate (some ⟨g, o, none⟩) j c L _ (hAj.below hC)).mono fun _ _ ⟨he, hb⟩ => ⟨he, below_chain hC hb hC.size⟩)) ?_
              refine wk_grd (b := !(((((a1 || a2) || l.over) || a3) || a4) || a5)) (v := .bool (a6)) (want_f rfl rfl rfl) (fun h w' hC => q_bin (X := .int .i64 l.rank) (Y := .int .i64 (gN L l.gate j : Nat)) rfl (cnd h) (cnd h) (bo_gtr ha6)) ?_
              refine wk_one (v := .bool ((((((a1 || a2) || l.over) || a3) || a4) || a5) || a6)) rfl (fun w' hC => q_or rfl (fun _ => hrc _) rfl rfl) ?_
              refine wk_one (v := .bool ((((((a1 || a2) || l.over) || a3) || a4) || a5) || a6)) rfl (fun w' hC => q_move rfl rfl) ?_
              refine wk_grd (b := !((((((a1 || a2) || l.over) || a3) || a4) || a5) || a6)) (v := .int .i64 (smN L l j : Nat)) (want_f rfl rfl rfl) (fun h w' hC => q_move rfl rfl) ?_
              refine wk_grd (b := !((((((a1 || a2) || l.over) || a3) || a4) || a5) || a6)) (v := .bool (a7)) (want_f rfl rfl rfl) (fun h w' hC => q_bin (X := .int .i64 (smN L l j : Nat)) (Y := .int .i64 1) rfl (cnd h) (hrc _) (bo_neq ha7)) ?_
              refine wk_one (v := .bool (((((((a1 || a2) || l.over) || a3) || a4) || a5) || a6) || a7)) rfl (fun w' hC => q_or rfl (fun _ => hrc _) rfl rfl) ?_
              intro wx hwx
              have hf := Lib.hid (show (((((((a1 || a2) || l.over) || a3) || a4) || a5) || a6) || a7) = !rlB K L l by subst ha1 ha2 ha3 ha4 ha5 ha6 ha7; unfold rlB; rw [if_pos hkk.out, hkl, Bool.eq_iff_iff]; cases l.over <;> simp <;> omega)
              clear hrc hrf r
              rw [frm_upd]
              refine hM1 _ _ (Met.intro (hJ1 _ _ ?_))
              repeat apply Exists.intro
              refine ⟨?rel, rfl⟩
              case rel => exact ⟨congrArg Value.bool hf.out, hwx⟩
            case rest =>
              obtain ⟨rfl, hbx⟩ := hcut
              cases hs : rlB K L l with
              | true =>
                have HS := Lib.hid (hyes.out hs)
                have hbf := hbb.more hbx
                clear hs hno hyes
                go_wp2_with fail
                go_roundw
                case rel => exact ⟨k + 1, by omega, by go_num, hbf, HS⟩
                case measure => simp [intOf]; omega
              | false =>
                have HS := Lib.hid (hno.out hs)
                clear hs hno hyes
                go_wp2_with fail
                go_ret
                exact ⟨ret_bool HS.out.symm, (hbb.more hbx).below⟩
          · have hkk := Lib.hid hp
            have hp1 : (l.kind == 1) = false := by simpa using hp
            by_cases hp2 : l.kind = 2
            · have hkk2 := Lib.hid hp2
              have hp3 : (l.kind == 2) = true := by simpa using hp2
              have hcn := cN_le L j
              have hj6 : cN L j ≤ 1000000 := by omega
              clear hp hp2
              obtain ⟨a1, ha1⟩ : ∃ b, (l.gate != 0) = b := ⟨_, rfl⟩
              obtain ⟨a2, ha2⟩ : ∃ b, (l.rank != 0) = b := ⟨_, rfl⟩
              obtain ⟨a3, ha3⟩ : ∃ b, (l.sign != 1) = b := ⟨_, rfl⟩
              obtain ⟨a4, ha4⟩ : ∃ b, (l.sign != -1) = b := ⟨_, rfl⟩
              obtain ⟨a5, ha5⟩ : ∃ b, decide (l.id < 1) = b := ⟨_, rfl⟩
              obtain ⟨a6, ha6⟩ : ∃ b, decide (((cN L j / 2 : Nat) : Int) < l.id) = b := ⟨_, rfl⟩
              obtain ⟨a7, ha7⟩ : ∃ b, (((prN L l j : Nat) : Int) != 1) = b := ⟨_, rfl⟩
              obtain ⟨a8, ha8⟩ : ∃ b, (((tN L l.id j : Nat) : Int) != 2) = b := ⟨_, rfl⟩
              go_upto_region 20 with fail
              go_cut [171] (fun v171 wx => v171 = .bool (!rlB K L l) ∧ Below wr.heap.size wr wx)
              case first =>
                rename_i hJ1 hM1
                refine wk_region (C := fun w' => Below wr.heap.size wr w') 172 [(4, .pointer (some ⟨wo.heap.size, 0, none⟩)), (1, .pointer (some ⟨w.heap.size, 0, none⟩)), (5, .int .i64 (smN L l j : Nat)), (6, .int .i64 (prN L l j : Nat))] (by kernel_rfl) (by kernel_rfl) rfl (by kernel_rfl) (by intro q hq; simp at hq; rcases hq with rfl | rfl | rfl | rfl <;> simp) (frm_same (frm_same (frm_same (frm_same rfl (by simp) rfl) (by simp) rfl) (by simp) rfl) (by simp) rfl) ((Below.refl _ _).drew) ?_
                intro r hrc hrf
                refine wk_one (v := .pointer (some ⟨wo.heap.size, 1, none⟩)) rfl (fun w' hC => q_fa (p := .pointer (some ⟨wo.heap.size, 0, none⟩)) rfl rfl (fa_lt _ 0 1 (by decide) _)) ?_
                refine wk_one (v := .int .i64 l.gate) rfl (fun w' hC => q_ld (p := .pointer (some ⟨wo.heap.size, 1, none⟩)) rfl rfl (ld_int ((hC.cell (p := ⟨wo.heap.size, 1, none⟩) hltw).trans z1))) ?_
                refine wk_one (v := .bool (a1)) rfl (fun w' hC => q_bin (X := .int .i64 l.gate) (Y := .int .i64 0) rfl rfl (hrc _) (bo_neq ha1)) ?_
                refine wk_one (v := .bool (a1)) rfl (fun w' hC => q_move rfl rfl) ?_
                refine wk_grd (b := !(a1)) (v := .pointer (some ⟨wo.heap.size, 2, none⟩)) (want_f rfl rfl rfl) (fun h w' hC => q_fa (p := .pointer (some ⟨wo.heap.size, 0, none⟩)) rfl rfl (fa_lt _ 0 2 (by decide) _)) ?_
                refine wk_grd (b := !(a1)) (v := .int .i64 l.rank) (want_f rfl rfl rfl) (fun h w' hC => q_ld (p := .pointer (some ⟨wo.heap.size, 2, none⟩)) rfl (cnd h) (ld_int ((hC.cell (p := ⟨wo.heap.size, 2, none⟩) hltw).trans z2))) ?_
                refine wk_grd (b := !(a1)) (v := .bool (a2)) (want_f rfl rfl rfl) (fun h w' hC => q_bin (X := .int .i64 l.rank) (Y := .int .i64 0) rfl (cnd h) (hrc _) (bo_neq ha2)) ?_
                refine wk_one (v := .bool (a1 || a2)) rfl (fun w' hC => q_or rfl (fun _ => hrc _) rfl rfl) ?_
                refine wk_one (v := .bool (a1 || a2)) rfl (fun w' hC => q_move rfl rfl) ?_
                refine wk_grd (b := !(a1 || a2)) (v := .pointer (some ⟨wo.heap.size, 4, none⟩)) (want_f rfl rfl rfl) (fun h w' hC => q_fa (p := .pointer (some ⟨wo.heap.size, 0, none⟩)) rfl rfl (fa_lt _ 0 4 (by decide) _)) ?_
                refine wk_grd (b := !(a1 || a2)) (v := .int .i64 l.sign) (want_f rfl rfl rfl) (fun h w' hC => q_ld (p := .pointer (some ⟨wo.heap.size, 4, none⟩)) rfl (cnd h) (ld_int ((hC.cell (p := ⟨wo.heap.size, 4, none⟩) hltw).trans z4))) ?_
                refine wk_grd (b := !(a1 || a2)) (v := .bool (a3)) (want_f rfl rfl rfl) (fun h w' hC => q_bin (X := .int .i64 l.sign) (Y := .int .i64 1) rfl (cnd h) (hrc _) (bo_neq ha3)) ?_
                refine wk_grd (b := !(a1 || a2)) (v := .bool (a3)) (want_f rfl rfl rfl) (fun h w' hC => q_move rfl (cnd h)) ?_
                refine wk_grd (b := (!(a1 || a2)) && (a3)) (v := .pointer (some ⟨wo.heap.size, 4, none⟩)) (want_ct rfl rfl rfl) (fun h w' hC => q_fa (p := .pointer (some ⟨wo.heap.size, 0, none⟩)) rfl rfl (fa_lt _ 0 4 (by decide) _)) ?_
                refine wk_grd (b := (!(a1 || a2)) && (a3)) (v := .int .i64 l.sign) (want_ct rfl rfl rfl) (fun h w' hC => q_ld (p := .pointer (some ⟨wo.heap.size, 4, none⟩)) rfl (cnd h) (ld_int ((hC.cell (p := ⟨wo.heap.size, 4, none⟩) hltw).trans z4))) ?_
                refine wk_grd (b := (!(a1 || a2)) && (a3)) (v := .bool (a4)) (want_ct rfl rfl rfl) (fun h w' hC => q_bin (X := .int .i64 l.sign) (Y := .int .i64 (-1)) rfl (cnd h) (hrc _) (bo_neq ha4)) ?_
                refine wk_grd (b := !(a1 || a2)) (v := .bool (a3 && a4)) (want_f rfl rfl rfl) (fun h w' hC => q_and rfl (fun _ => hrc _) (cnd h) (by rw [show look _ _ (.tmp 145) = cond ((!(a1 || a2)) && (a3)) (.bool (a4)) undef from rfl, h]; rfl)) ?_
                refine wk_one (v := .bool ((a1 || a2) || (a3 && a4))) rfl (fun w' hC => q_or rfl (fun _ => hrc _) rfl rfl) ?_
                refine wk_one (v := .bool ((a1 || a2) || (a3 && a4))) rfl (fun w' hC => q_move rfl rfl) ?_
                refine wk_grd (b := !((a1 || a2) || (a3 && a4))) (v := .pointer (some ⟨wo.heap.size, 3, none⟩)) (want_f rfl rfl rfl) (fun h w' hC => q_fa (p := .pointer (some ⟨wo.heap.size, 0, none⟩)) rfl rfl (fa_lt _ 0 3 (by decide) _)) ?_
                refine wk_grd (b := !((a1 || a2) || (a3 && a4))) (v := .int .i64 l.id) (want_f rfl rfl rfl) (fun h w' hC => q_ld (p := .pointer (some ⟨wo.heap.size, 3, none⟩)) rfl (cnd h) (ld_int ((hC.cell (p := ⟨wo.heap.size, 3, none⟩) hltw).trans z3))) ?_
                refine wk_grd (b := !((a1 || a2) || (a3 && a4))) (v := .bool (a5)) (want_f rfl rfl rfl) (fun h w' hC => q_bin (X := .int .i64 l.id) (Y := .int .i64 1) rfl (cnd h) (hrc _) (bo_lss ha5)) ?_
                refine wk_one (v := .bool (((a1 || a2) || (a3 && a4)) || a5)) rfl (fun w' hC => q_or rfl (fun _ => hrc _) rfl rfl) ?_
                refine wk_one (v := .bool (((a1 || a2) || (a3 && a4)) || a5)) rfl (fun w' hC => q_move rfl rfl) ?_
                refine wk_grd (b := !(((a1 || a2) || (a3 && a4)) || a5)) (v := .pointer (some ⟨wo.heap.size, 3, none⟩)) (want_f rfl rfl rfl) (fun h w' hC => q_fa (p := .pointer (some ⟨wo.heap.size, 0, none⟩)) rfl rfl (fa_lt _ 0 3 (by decide) _)) ?_
                refine wk_grd (b := !(((a1 || a2) || (a3 && a4)) || a5)) (v := .int .i64 l.id) (want_f rfl rfl rfl) (fun h w' hC => q_ld (p := .pointer (some ⟨wo.heap.size, 3, none⟩)) rfl (cnd h) (ld_int ((hC.cell (p := ⟨wo.heap.size, 3, none⟩) hltw).trans z3))) ?_
                refine wk_grd (b := !(((a1 || a2) || (a3 && a4)) || a5)) (v := .agg #[.int .i64 K, .slice (some ⟨g, o, none⟩) j c]) (want_f rfl rfl rfl) (fun h w' hC => q_ld (p := .pointer (some ⟨w.heap.size, 0, none⟩)) rfl rfl (ld_code ((hC.cell (p := ⟨w.heap.size, 0, none⟩) hltb).trans c0) ((hC.cell (p := ⟨w.heap.size, 1, none⟩) hltb).trans c1))) ?_
                refine wk_grd (b := !(((a1 || a2) || (a3 && a4)) || a5)) (v := .int .i64 (cN L j : Nat)) (want_f rfl rfl rfl) (fun h w' hC => q_call (vs := #[.agg #[.int .i64 K, .slice (some ⟨g, o, none⟩) j c]]) rfl (hrf _) (map1 (cnd h)) (en_visits _ _) ((ref_visits K (some ⟨g, o, none⟩) j c L _ (hAj.below hC)).mono fun _ _ ⟨he, hb⟩ => ⟨he, below_chain hC hb hC.size⟩)) ?_
                refine wk_grd (b := !(((a1 || a2) || (a3 && a4)) || a5)) (v := .int .i64 ((cN L j / 2 : Nat) : Int)) (want_f rfl rfl rfl) (fun h w' hC => q_bin (X := .int .i64 (cN L j : Nat)) (Y := .int .i64 2) rfl (cnd h) (hrc _) (bo_half _ hj6)) ?_
                refine wk_grd (b := !(((a1 || a2) || (a3 && a4)) || a5)) (v := .bool (a6)) (want_f rfl rfl rfl) (fun h w' hC => q_bin (X := .int .i64 l.id) (Y := .int .i64 ((cN L j / 2 : Nat) : Int)) rfl (cnd h) (cnd h) (bo_gtr ha6)) ?_
                refine wk_one (v := .bool ((((a1 || a2) || (a3 && a4)) || a5) || a6)) rfl (fun w' hC => q_or rfl (fun _ => hrc _) rfl rfl) ?_
                refine wk_one (v := .bool ((((a1 || a2) || (a3 && a4)) || a5) || a6)) rfl (fun w' hC => q_move rfl rfl) ?_
                refine wk_grd (b := !((((a1 || a2) || (a3 && a4)) || a5) || a6)) (v := .int .i64 (prN L l j : Nat)) (want_f rfl rfl rfl) (fun h w' hC => q_move rfl rfl) ?_
                refine wk_grd (b := !((((a1 || a2) || (a3 && a4)) || a5) || a6)) (v := .bool (a7)) (want_f rfl rfl rfl) (fun h w' hC => q_bin (X := .int .i64 (prN L l j : Nat)) (Y := .int .i64 1) rfl (cnd h) (hrc _) (bo_neq ha7)) ?_
                refine wk_one (v := .bool (((((a1 || a2) || (a3 && a4)) || a5) || a6) || a7)) rfl (fun w' hC => q_or rfl (fun _ => hrc _) rfl rfl) ?_
                refine wk_one (v := .bool (((((a1 || a2) || (a3 && a4)) || a5) || a6) || a7)) rfl (fun w' hC => q_move rfl rfl) ?_
                refine wk_grd (b := !(((((a1 || a2) || (a3 && a4)) || a5) || a6) || a7)) (v := .agg #[.int .i64 K, .slice (some ⟨g, o, none⟩) j c]) (want_f rfl rfl rfl) (fun h w' hC => q_ld (p := .pointer (some ⟨w.heap.size, 0, none⟩)) rfl rfl (ld_code ((hC.cell (p := ⟨w.heap.size, 0, none⟩) hltb).trans c0) ((hC.cell (p := ⟨w.heap.size, 1, none⟩) hltb).trans c1))) ?_
                refine wk_grd (b := !(((((a1 || a2) || (a3 && a4)) || a5) || a6) || a7)) (v := .pointer (some ⟨wo.heap.size, 3, none⟩)) (want_f rfl rfl rfl) (fun h w' hC => q_fa (p := .pointer (some ⟨wo.heap.size, 0, none⟩)) rfl rfl (fa_lt _ 0 3 (by decide) _)) ?_
                refine wk_grd (b := !(((((a1 || a2) || (a3 && a4)) || a5) || a6) || a7)) (v := .int .i64 l.id) (want_f rfl rfl rfl) (fun h w' hC => q_ld (p := .pointer (some ⟨wo.heap.size, 3, none⟩)) rfl (cnd h) (ld_int ((hC.cell (p := ⟨wo.heap.size, 3, none⟩) hltw).trans z3))) ?_
                refine wk_grd (b := !(((((a1 || a2) || (a3 && a4)) || a5) || a6) || a7)) (v := .int .i64 (tN L l.id j : Nat)) (want_f rfl rfl rfl) (fun h w' hC => q_call (vs := #[.agg #[.int .i64 K, .slice (some ⟨g, o, none⟩) j c], .int .i64 l.id]) rfl (hrf _) (map2 (cnd h) (cnd h)) (en_times _ _) ((ref_times K l.id (some ⟨g, o, none⟩) j c L _ (hAj.below hC)).mono fun _ _ ⟨he, hb⟩ => ⟨he, below_chain hC hb hC.size⟩)) ?_
                refine wk_grd (b := !(((((a1 || a2) || (a3 && a4)) || a5) || a6) || a7)) (v := .bool (a8)) (want_f rfl rfl rfl) (fun h w' hC => q_bin (X := .int .i64 (tN L l.id j : Nat)) (Y := .int .i64 2) rfl (cnd h) (hrc _) (bo_neq ha8)) ?_
                refine wk_one (v := .bool ((((((a1 || a2) || (a3 && a4)) || a5) || a6) || a7) || a8)) rfl (fun w' hC => q_or rfl (fun _ => hrc _) rfl rfl) ?_
                intro wx hwx
                have hf := Lib.hid (show ((((((a1 || a2) || (a3 && a4)) || a5) || a6) || a7) || a8) = !rlB K L l by subst ha1 ha2 ha3 ha4 ha5 ha6 ha7 ha8; unfold rlB; rw [if_neg hkk.out, if_pos hkk2.out, hkl, Bool.eq_iff_iff]; simp; omega)
                clear hrc hrf r
                rw [frm_upd]
                refine hM1 _ _ (Met.intro (hJ1 _ _ ?_))
                repeat apply Exists.intro
                refine ⟨?rel, rfl⟩
                case rel => exact ⟨congrArg Value.bool hf.out, hwx⟩
              case rest =>
                obtain ⟨rfl, hbx⟩ := hcut
                cases hs : rlB K L l with
                | true =>
                  have HS := Lib.hid (hyes.out hs)
                  have hbf := hbb.more hbx
                  clear hs hno hyes
                  go_wp2_with fail
                  go_roundw
                  case rel => exact ⟨k + 1, by omega, by go_num, hbf, HS⟩
                  case measure => simp [intOf]; omega
                | false =>
                  have HS := Lib.hid (hno.out hs)
                  clear hs hno hyes
                  go_wp2_with fail
                  go_ret
                  exact ⟨ret_bool HS.out.symm, (hbb.more hbx).below⟩
            · have hp3 : (l.kind == 2) = false := by simpa using hp2
              have hf := Lib.hid (hno.out (by unfold rlB; rw [if_neg hp, if_neg hp2]))
              clear hp hp2 hno hyes
              go_wp2_with fail
              go_ret
              exact ⟨ret_bool hf.out.symm, hbb.below⟩
    · have hkn : k = n := by omega
      subst hkn
      have hf := Lib.hid (show lettersR K L = true by unfold lettersR; rw [HL.out]; exact HK.out)
      have hk0 := hb.c0
      have hk1 := hb.c1
      clear HK
      go_wp2_with fail
      go_ret
      exact ⟨ret_bool hf.out.symm, hb.below⟩
end

section
open Go.RowKit

theorem ref_Crossings_is {x : Nat} {L : List Lt} {n : Nat} (hx : cN L n / 2 = x) (K : Int) (A : Option Addr) (c : Nat) (w : World) (hA : Lets w A n L) :
    Calls Tryd.prog 30 #[.agg #[.int .i64 K, .slice A n c]] w fun e w' => e = .returned (.int .i64 x) ∧ Below w.heap.size w w' := by
  subst hx
  exact ref_Crossings K A n c L w hA
theorem ref_letters_is {b : Bool} {K : Int} {L : List Lt} (hb : lettersR K L = b) (A : Option Addr) (n c : Nat) (w : World) (hA : Lets w A n L) (hn400 : n ≤ 1000) :
    Calls Tryd.prog 77 #[.agg #[.int .i64 K, .slice A n c]] w fun e w' => e = .returned (.bool b) ∧ Below w.heap.size w w' := by
  subst hb
  exact ref_letters K A n c L w hA hn400
/-- Only how many walks there are. -/
theorem ref_Walks_len {q : Nat} {K : Int} {L : List Lt} (hq : (walksL L).length = q) (A : Option Addr) (n c : Nat) (w : World) (hA : Lets w A n L) (g : Good K L) (hn400 : n ≤ 1000) :
    Calls Tryd.prog 78 #[.agg #[.int .i64 K, .slice A n c]] w fun e w' => (∃ A' c', e = .returned (.slice A' q c')) ∧ Below w.heap.size w w' := by
  subst hq
  refine (ref_Walks K A n c L w hA g hn400).mono ?_
  rintro e w' ⟨A', c', vs, rfl, _, hb⟩
  exact ⟨⟨A', c', rfl⟩, hb⟩
theorem checkE_7 {K : Int} {L : List Lt} (h : 400 < L.length ∨ 200 < cN L L.length) : checkE K L = 7 := by unfold checkE; rw [if_pos h]
theorem checkE_2 {K : Int} {L : List Lt} (h : ¬(400 < L.length ∨ 200 < cN L L.length)) (h2 : K < 0 ∨ 40 < K) : checkE K L = 2 := by unfold checkE; rw [if_neg h, if_pos h2]
theorem checkE_0 {K : Int} {L : List Lt} (h : ¬(400 < L.length ∨ 200 < cN L L.length)) (h2 : ¬(K < 0 ∨ 40 < K)) (h3 : L.length = 0) : checkE K L = 0 := by unfold checkE; rw [if_neg h, if_neg h2, if_pos h3]
theorem checkE_v {K : Int} {L : List Lt} (h : ¬(400 < L.length ∨ 200 < cN L L.length)) (h2 : ¬(K < 0 ∨ 40 < K)) (h3 : ¬L.length = 0) : checkE K L = if validB2 K L then 0 else 3 := by unfold checkE; rw [if_neg h, if_neg h2, if_neg h3]
set_option maxRecDepth 100000 in
set_option maxHeartbeats 3200000 in
theorem ref_Check (K : Int) (A : Option Addr) (n c : Nat) (L : List Lt) (w : World) (hA : Lets w A n L) :
    Calls Tryd.prog 21 #[.agg #[.int .i64 K, .slice A n c]] w fun e w' => e = .returned (.int .i64 (checkE K L)) ∧ Below w.heap.size w w' := by
  have hle := hA.le
  have hLn : L.length = n := hA.len
  have hbx := Boxed.refl w K A n c
  have hcn := cN_le L n
  by_cases h400 : 400 < n
  · have hf := Lib.hid (checkE_7 (K := K) (L := L) (.inl (by omega)))
    have q : (400 : Int) < (n : Int) := by omega
    clear hLn
    go_enter Tryd.func21, Tryd.ntmps21
    go_wp2_with fail
    go_ret
    exact ⟨ret_int hf.out.symm, hbx.below⟩
  · have q : decide ((400 : Int) < (n : Int)) = false := by simp; omega
    by_cases h200 : 200 < cN L n
    · have hf := Lib.hid (checkE_7 (K := K) (L := L) (.inr (by rw [hLn]; exact h200)))
      have q2 : (200 : Int) < (cN L n : Int) := by omega
      clear hLn
      go_enter Tryd.func21, Tryd.ntmps21
      go_wp2_with fail
      refine (ref_visits K A n c L _ (hA.below hbx.below)).mono ?_
      rintro e w1 ⟨rfl, hb1⟩
      have hb2 := hbx.more hb1
      go_wp2_with fail
      go_ret
      exact ⟨ret_int hf.out.symm, hb2.below⟩
    · have q2 : decide ((200 : Int) < (cN L n : Int)) = false := by simp; omega
      have hno : ¬(400 < L.length ∨ 200 < cN L L.length) := by rw [hLn]; omega
      by_cases hK0 : K < 0
      · have hf := Lib.hid (checkE_2 (K := K) (L := L) hno (.inl hK0))
        clear hLn
        go_enter Tryd.func21, Tryd.ntmps21
        go_wp2_with fail
        refine (ref_visits K A n c L _ (hA.below hbx.below)).mono ?_
        rintro e w1 ⟨rfl, hb1⟩
        have hb2 := hbx.more hb1
        have c0 := hb2.c0
        go_wp2_with fail
        go_ret
        exact ⟨ret_int hf.out.symm, hb2.below⟩
      · have q3 : decide (K < 0) = false := by simpa using hK0
        by_cases hK4 : 40 < K
        · have hf := Lib.hid (checkE_2 (K := K) (L := L) hno (.inr hK4))
          clear hLn hK0
          go_enter Tryd.func21, Tryd.ntmps21
          go_wp2_with fail
          refine (ref_visits K A n c L _ (hA.below hbx.below)).mono ?_
          rintro e w1 ⟨rfl, hb1⟩
          have hb2 := hbx.more hb1
          have c0 := hb2.c0
          go_wp2_with fail
          go_ret
          exact ⟨ret_int hf.out.symm, hb2.below⟩
        · have q4 : decide (40 < K) = false := by simpa using hK4
          by_cases h0 : n = 0
          · have hf := Lib.hid (checkE_0 (K := K) (L := L) hno (by omega) (by omega))
            subst h0
            clear hLn hK0 hK4
            go_enter Tryd.func21, Tryd.ntmps21
            go_wp2_with fail
            refine (ref_visits K A 0 c L _ (hA.below hbx.below)).mono ?_
            rintro e w1 ⟨rfl, hb1⟩
            have hb2 := hbx.more hb1
            have c0 := hb2.c0
            have c1 := hb2.c1
            go_wp2_with fail
            go_ret
            exact ⟨ret_int hf.out.symm, hb2.below⟩
          · have hf := checkE_v (K := K) (L := L) hno (by omega) (by omega)
            have q5 : ((n : Int) == 0) = false := by simp; omega
            have q50 : (0 : Int) < (n : Int) := by omega
            have q51 : 0 < n := by omega
            have hn1000 : n ≤ 1000 := by omega
            have hpn := pN_le L n
            obtain ⟨g, o, rfl, hg, hx, _⟩ := hA.at_ (k := 0) (by omega)
            obtain ⟨x, hx2⟩ : ∃ x, cN L n / 2 = x := ⟨_, rfl⟩
            obtain ⟨q', hq'⟩ : ∃ q', (walksL L).length = q' := ⟨_, rfl⟩
            have HX2 := Lib.hid hx2
            have HQ := Lib.hid hq'
            have hz0 := hx.kind
            simp only [Nat.zero_mul, Nat.add_zero] at hz0
            have HLn := Lib.hid hLn
            have HV := Lib.hid hf
            have hgl := hg
            have hxb : x ≤ 1000 := by omega
            have hvd : Hid (validB2 K L = (isP (la L 0) && decide (pN L n % 2 = 0) && lettersR K L && ((walksL L).length == pN L n + cN L n / 2 + 2))) := by
              show _ = _
              unfold validB2 flatB
              rw [hLn]
            have m0 : (0 : Int) ≤ (pN L n : Int) := by omega
            clear hLn hf hx2 hq' h0 hK0 hK4 hno hx
            have hzw := hz0
            have hAw : Lets w (some ⟨g, o, none⟩) n L := hA
            by_cases hk : (la L 0).kind = 1
            · have hk1 : ((la L 0).kind != 1) = false := by simpa using hk
              have HK := Lib.hid (isP_t hk)
              clear hk
              by_cases hp : pN L n % 2 = 0
              · have hp1 : ((pN L n : Int) % 2 != 0) = false := by simp; omega
                have HP := Lib.hid hp
                clear hp
                have s3 : IntKind.i64.wrap ((pN L n : Int) % 2) = (pN L n : Int) % 2 := IntWalk.i64_in _ (by omega)
                have s4 : (pN L n : Int).tmod 2 = (pN L n : Int) % 2 := Int.tmod_eq_emod_of_nonneg (by omega)
                cases hl : lettersR K L with
                | false =>
                  have HLB := Lib.hid hl
                  have HF := Lib.hid (show checkE K L = 3 by rw [HV.out, hvd.out, hl]; simp)
                  clear hl
                  go_enter Tryd.func21, Tryd.ntmps21
                  go_wp2_with fail
                  refine (ref_visits K (some ⟨g, o, none⟩) n c L _ (hA.below hbx.below)).mono ?_
                  rintro e w1 ⟨rfl, hb1⟩
                  have hb2 := hbx.more hb1
                  have c0 := hb2.c0
                  have c1 := hb2.c1
                  go_wp2_with fail
                  refine (ref_Passes K (some ⟨g, o, none⟩) n c L _ (hA.below hb2.below)).mono ?_
                  rintro e w2 ⟨rfl, hb3⟩
                  have hb4 := hb2.more hb3
                  clear c0 c1 hb1 hb2 hb3
                  have c0 := hb4.c0
                  have c1 := hb4.c1
                  have z2 : w2.cell? ⟨g, o, none⟩ = some (.int .i64 (la L 0).kind) := (hb4.below.cell (p := ⟨g, o, none⟩) hgl).trans hzw
                  have hA2 := hA.below hb4.below
                  go_wp2_with fail
                  have hl0 : w.heap.size < w2.heap.size := World.block_lt_of_cell? w2 _ c0
                  refine wk_region (C := fun w' => Below w2.heap.size w2 w') 54 [(1, .pointer (some ⟨w.heap.size, 0, none⟩)), (3, .int .i64 (pN L n : Nat))] (by kernel_rfl) (by kernel_rfl) rfl (by kernel_rfl) (by intro q hq; simp at hq; rcases hq with rfl | rfl <;> simp) (frm_same (frm_same rfl (by simp) rfl) (by simp) rfl) ((Below.refl _ _).drew) ?_
                  intro r hrc hrf
                  refine wk_one (v := .pointer (some ⟨w.heap.size, 1, none⟩)) rfl (fun w' hC => q_fa (p := .pointer (some ⟨w.heap.size, 0, none⟩)) rfl rfl (fa_code _ 0 1 (by decide) _)) ?_
                  refine wk_one (v := .slice (some ⟨g, o, none⟩) n c) rfl (fun w' hC => q_ld (p := .pointer (some ⟨w.heap.size, 1, none⟩)) rfl rfl (ld_lets ((hC.cell (p := ⟨w.heap.size, 1, none⟩) hl0).trans c1))) ?_
                  refine wk_one (v := .pointer (some ⟨g, o, none⟩)) rfl (fun w' hC => q_ix (X := .slice (some ⟨g, o, none⟩) n c) (I := .int .i64 0) rfl rfl (hrc _) (ix_first q50 _)) ?_
                  refine wk_one (v := .pointer (some ⟨g, o, none⟩)) rfl (fun w' hC => q_fa (p := .pointer (some ⟨g, o, none⟩)) rfl rfl (fa_lt _ o 0 (by decide) _)) ?_
                  refine wk_one (v := .int .i64 (la L 0).kind) rfl (fun w' hC => q_ld (p := .pointer (some ⟨g, o, none⟩)) rfl rfl (ld_kind ((hC.cell (p := ⟨g, o, none⟩) (World.block_lt_of_cell? w2 _ z2)).trans z2))) ?_
                  refine wk_one (v := .bool (false)) rfl (fun w' hC => q_bin (X := .int .i64 (la L 0).kind) (Y := .int .i64 1) rfl rfl (hrc _) (bo_neqK hk1)) ?_
                  refine wk_one (v := .bool (false)) rfl (fun w' hC => q_move rfl rfl) ?_
                  refine wk_grd (b := !(false)) (v := .int .i64 (pN L n : Nat)) (want_f rfl rfl rfl) (fun h w' hC => q_move rfl rfl) ?_
                  refine wk_grd (b := !(false)) (v := .int .i64 ((pN L n : Int) % 2)) (want_f rfl rfl rfl) (fun h w' hC => q_bin (X := .int .i64 (pN L n : Nat)) (Y := .int .i64 2) rfl (cnd (u := undef) h) (hrc _) (bo_rem2 _ (by omega))) ?_
                  refine wk_grd (b := !(false)) (v := .bool (false)) (want_f rfl rfl rfl) (fun h w' hC => q_bin (X := .int .i64 ((pN L n : Int) % 2)) (Y := .int .i64 0) rfl (cnd (u := undef) h) (hrc _) (bo_neq hp1)) ?_
                  refine wk_one (v := .bool (false || false)) rfl (fun w' hC => q_or rfl (fun _ => hrc _) rfl rfl) ?_
                  refine wk_one (v := .bool (false || false)) rfl (fun w' hC => q_move rfl rfl) ?_
                  refine wk_grd (b := !(false || false)) (v := .agg #[.int .i64 K, .slice (some ⟨g, o, none⟩) n c]) (want_f rfl rfl rfl) (fun h w' hC => q_ld (p := .pointer (some ⟨w.heap.size, 0, none⟩)) rfl rfl (ld_code ((hC.cell (p := ⟨w.heap.size, 0, none⟩) hl0).trans c0) ((hC.cell (p := ⟨w.heap.size, 1, none⟩) hl0).trans c1))) ?_
                  refine wk_grd (b := !(false || false)) (v := .bool (false)) (want_f rfl rfl rfl) (fun h w' hC => q_call (vs := #[.agg #[.int .i64 K, .slice (some ⟨g, o, none⟩) n c]]) rfl (hrf _) (map1 (cnd (u := undef) h)) (en_letters _ _) ((ref_letters_is HLB.out (some ⟨g, o, none⟩) n c _ (hA2.below hC) hn1000).mono fun _ _ ⟨he, hb⟩ => ⟨he, below_chain hC hb hC.size⟩)) ?_
                  refine wk_grd (b := !(false || false)) (v := .bool (!false)) (want_f rfl rfl rfl) (fun h w' hC => q_un (X := .bool (false)) rfl (cnd (u := undef) h) (un_not _ _)) ?_
                  refine wk_one (v := .bool ((false || false) || (!false))) rfl (fun w' hC => q_or rfl (fun _ => hrc _) rfl rfl) ?_
                  refine wk_one (v := .bool ((false || false) || (!false))) rfl (fun w' hC => q_move rfl rfl) ?_
                  refine wk_grd (b := !((false || false) || (!false))) (v := undef) (want_f rfl rfl rfl) (fun h => absurd h (by decide)) ?_
                  refine wk_grd (b := !((false || false) || (!false))) (v := undef) (want_f rfl rfl rfl) (fun h => absurd h (by decide)) ?_
                  refine wk_grd (b := !((false || false) || (!false))) (v := undef) (want_f rfl rfl rfl) (fun h => absurd h (by decide)) ?_
                  refine wk_grd (b := !((false || false) || (!false))) (v := undef) (want_f rfl rfl rfl) (fun h => absurd h (by decide)) ?_
                  refine wk_grd (b := !((false || false) || (!false))) (v := undef) (want_f rfl rfl rfl) (fun h => absurd h (by decide)) ?_
                  refine wk_grd (b := !((false || false) || (!false))) (v := undef) (want_f rfl rfl rfl) (fun h => absurd h (by decide)) ?_
                  refine wk_grd (b := !((false || false) || (!false))) (v := .bool false) (want_f rfl rfl rfl) (fun h => absurd h (by decide)) ?_
                  refine wk_grd (b := !((false || false) || (!false))) (v := .bool false) (want_f rfl rfl rfl) (fun h => absurd h (by decide)) ?_
                  refine wk_grd (b := !((false || false) || (!false))) (v := .bool false) (want_f rfl rfl rfl) (fun h => absurd h (by decide)) ?_
                  refine wk_one (v := .bool (((false || false) || (!false)) || false)) rfl (fun w' hC => q_or rfl (fun _ => hrc _) rfl rfl) ?_
                  intro wx hwx
                  clear hrc hrf r
                  have hbf := hb4.more hwx
                  clear c0 c1 z2 hA2 hb4
                  simp only [outE, frm, Act.put, List.setIfInBounds_toArray, List.set_cons_succ, List.set_cons_zero]
                  go_wp2_with fail
                  go_ret
                  exact ⟨ret_int HF.out.symm, hbf.below⟩
                | true =>
                  have HLB := Lib.hid hl
                  have HG := Lib.hid (show Good K L by
                    have h1 := hl
                    rw [← letters_iff] at h1
                    simp only [Bool.and_eq_true] at h1
                    exact good_of_parts (by rw [HLn.out]; omega) HK.out (by rw [HLn.out]; exact HP.out) h1.1.1 h1.1.2 h1.2)
                  have s1 : IntKind.i64.wrap ((pN L n : Int) + (x : Int)) = (pN L n : Int) + (x : Int) := IntWalk.i64_in _ (by omega)
                  have s2 : IntKind.i64.wrap ((pN L n : Int) + (x : Int) + 2) = (pN L n : Int) + (x : Int) + 2 := IntWalk.i64_in _ (by omega)
                  cases hfl : ((q' : Int) != (pN L n : Int) + (x : Int) + 2) with
                  | true =>
                    have HF := Lib.hid (show checkE K L = 3 by
                      rw [HV.out, hvd.out, hl, HQ.out, HX2.out]
                      have : (q' == pN L n + x + 2) = false := by simp at hfl ⊢; omega
                      rw [this]; simp)
                    clear hl
                    go_enter Tryd.func21, Tryd.ntmps21
                    go_wp2_with fail
                    refine (ref_visits K (some ⟨g, o, none⟩) n c L _ (hA.below hbx.below)).mono ?_
                    rintro e w1 ⟨rfl, hb1⟩
                    have hb2 := hbx.more hb1
                    have c0 := hb2.c0
                    have c1 := hb2.c1
                    go_wp2_with fail
                    refine (ref_Passes K (some ⟨g, o, none⟩) n c L _ (hA.below hb2.below)).mono ?_
                    rintro e w2 ⟨rfl, hb3⟩
                    have hb4 := hb2.more hb3
                    clear c0 c1 hb1 hb2 hb3
                    have c0 := hb4.c0
                    have c1 := hb4.c1
                    have z2 : w2.cell? ⟨g, o, none⟩ = some (.int .i64 (la L 0).kind) := (hb4.below.cell (p := ⟨g, o, none⟩) hgl).trans hzw
                    have hA2 := hA.below hb4.below
                    go_wp2_with fail
                    have KP := Lib.hid (show ∀ wx, Below w2.heap.size w2 wx → (Below w2.heap.size w2 wx ∧ Boxed w wx K (some ⟨g, o, none⟩) n c ∧ wx.cell? ⟨w.heap.size, 0, none⟩ = some (.int .i64 K) ∧ wx.cell? ⟨w.heap.size, 1, none⟩ = some (.slice (some ⟨g, o, none⟩) n c) ∧ wx.cell? ⟨g, o, none⟩ = some (.int .i64 (la L 0).kind)) from fun wx h => ⟨h, hb4.more h, (hb4.more h).c0, (hb4.more h).c1, (h.cell (World.block_lt_of_cell? w2 _ z2)).trans z2⟩)
                    first
                      | go_region_held3 (fun wx => Below w2.heap.size w2 wx ∧ Boxed w wx K (some ⟨g, o, none⟩) n c ∧ wx.cell? ⟨w.heap.size, 0, none⟩ = some (.int .i64 K) ∧ wx.cell? ⟨w.heap.size, 1, none⟩ = some (.slice (some ⟨g, o, none⟩) n c) ∧ wx.cell? ⟨g, o, none⟩ = some (.int .i64 (la L 0).kind)) (first | assumption | exact KP.out _ (Below.refl _ _).drew | exact KP.out _ (below_chain (And.left (by assumption)) (by assumption) (Below.size (And.left (by assumption))))) (first | (refine unwanted_step (by rfl) ?_) | (go_at_call 77; refine (ref_letters_is HLB.out (some ⟨g, o, none⟩) n c _ (hA2.below (And.left (by assumption))) hn1000).mono ?_; rintro e wx ⟨rfl, hb5⟩) | (go_at_call 78; refine (ref_Walks_len HQ.out (some ⟨g, o, none⟩) n c _ (hA2.below (And.left (by assumption))) HG.out hn1000).mono ?_; rintro e wy ⟨⟨A7, c7, rfl⟩, hb6⟩) | (go_at_call 30; refine (ref_Crossings_is HX2.out K (some ⟨g, o, none⟩) c _ (hA2.below (And.left (by assumption)))).mono ?_; rintro e wz ⟨rfl, hb7⟩))
                      | fail
                    all_goals
                      have hbf := hb4.more (And.left (show Below w2.heap.size w2 _ ∧ _ by assumption))
                      go_wp2_with fail
                      go_ret
                      exact ⟨ret_int HF.out.symm, hbf.below⟩
                  | false =>
                    have HF := Lib.hid (show checkE K L = 0 by
                      rw [HV.out, hvd.out, hl, HQ.out, HX2.out, HK.out]
                      have : (q' == pN L n + x + 2) = true := by simp at hfl ⊢; omega
                      rw [this]; simp [HP.out])
                    clear hl
                    go_enter Tryd.func21, Tryd.ntmps21
                    go_wp2_with fail
                    refine (ref_visits K (some ⟨g, o, none⟩) n c L _ (hA.below hbx.below)).mono ?_
                    rintro e w1 ⟨rfl, hb1⟩
                    have hb2 := hbx.more hb1
                    have c0 := hb2.c0
                    have c1 := hb2.c1
                    go_wp2_with fail
                    refine (ref_Passes K (some ⟨g, o, none⟩) n c L _ (hA.below hb2.below)).mono ?_
                    rintro e w2 ⟨rfl, hb3⟩
                    have hb4 := hb2.more hb3
                    clear c0 c1 hb1 hb2 hb3
                    have c0 := hb4.c0
                    have c1 := hb4.c1
                    have z2 : w2.cell? ⟨g, o, none⟩ = some (.int .i64 (la L 0).kind) := (hb4.below.cell (p := ⟨g, o, none⟩) hgl).trans hzw
                    have hA2 := hA.below hb4.below
                    go_wp2_with fail
                    have KP := Lib.hid (show ∀ wx, Below w2.heap.size w2 wx → (Below w2.heap.size w2 wx ∧ Boxed w wx K (some ⟨g, o, none⟩) n c ∧ wx.cell? ⟨w.heap.size, 0, none⟩ = some (.int .i64 K) ∧ wx.cell? ⟨w.heap.size, 1, none⟩ = some (.slice (some ⟨g, o, none⟩) n c) ∧ wx.cell? ⟨g, o, none⟩ = some (.int .i64 (la L 0).kind)) from fun wx h => ⟨h, hb4.more h, (hb4.more h).c0, (hb4.more h).c1, (h.cell (World.block_lt_of_cell? w2 _ z2)).trans z2⟩)
                    first
                      | go_region_held3 (fun wx => Below w2.heap.size w2 wx ∧ Boxed w wx K (some ⟨g, o, none⟩) n c ∧ wx.cell? ⟨w.heap.size, 0, none⟩ = some (.int .i64 K) ∧ wx.cell? ⟨w.heap.size, 1, none⟩ = some (.slice (some ⟨g, o, none⟩) n c) ∧ wx.cell? ⟨g, o, none⟩ = some (.int .i64 (la L 0).kind)) (first | assumption | exact KP.out _ (Below.refl _ _).drew | exact KP.out _ (below_chain (And.left (by assumption)) (by assumption) (Below.size (And.left (by assumption))))) (first | (refine unwanted_step (by rfl) ?_) | (go_at_call 77; refine (ref_letters_is HLB.out (some ⟨g, o, none⟩) n c _ (hA2.below (And.left (by assumption))) hn1000).mono ?_; rintro e wx ⟨rfl, hb5⟩) | (go_at_call 78; refine (ref_Walks_len HQ.out (some ⟨g, o, none⟩) n c _ (hA2.below (And.left (by assumption))) HG.out hn1000).mono ?_; rintro e wy ⟨⟨A7, c7, rfl⟩, hb6⟩) | (go_at_call 30; refine (ref_Crossings_is HX2.out K (some ⟨g, o, none⟩) c _ (hA2.below (And.left (by assumption)))).mono ?_; rintro e wz ⟨rfl, hb7⟩))
                      | fail
                    all_goals
                      have hbf := hb4.more (And.left (show Below w2.heap.size w2 _ ∧ _ by assumption))
                      go_wp2_with fail
                      go_ret
                      exact ⟨ret_int HF.out.symm, hbf.below⟩
              · have hp1 : ((pN L n : Int) % 2 != 0) = true := by simp; omega
                have HF := Lib.hid (show checkE K L = 3 by rw [HV.out, hvd.out]; simp [hp])
                clear hp
                go_enter Tryd.func21, Tryd.ntmps21
                go_wp2_with fail
                refine (ref_visits K (some ⟨g, o, none⟩) n c L _ (hA.below hbx.below)).mono ?_
                rintro e w1 ⟨rfl, hb1⟩
                have hb2 := hbx.more hb1
                have c0 := hb2.c0
                have c1 := hb2.c1
                go_wp2_with fail
                refine (ref_Passes K (some ⟨g, o, none⟩) n c L _ (hA.below hb2.below)).mono ?_
                rintro e w2 ⟨rfl, hb3⟩
                have hb4 := hb2.more hb3
                clear c0 c1 hb1 hb2 hb3
                have c0 := hb4.c0
                have c1 := hb4.c1
                have z2 : w2.cell? ⟨g, o, none⟩ = some (.int .i64 (la L 0).kind) := (hb4.below.cell (p := ⟨g, o, none⟩) hgl).trans hzw
                have hA2 := hA.below hb4.below
                go_wp2_with fail
                go_quiet (fail)
                go_wp2_with fail
                go_ret
                exact ⟨ret_int HF.out.symm, below_drewN hb4.below _⟩
            · have hk1 : ((la L 0).kind != 1) = true := by simpa using hk
              have HF := Lib.hid (show checkE K L = 3 by rw [HV.out, hvd.out, isP_f hk]; simp)
              clear hk
              go_enter Tryd.func21, Tryd.ntmps21
              go_wp2_with fail
              refine (ref_visits K (some ⟨g, o, none⟩) n c L _ (hA.below hbx.below)).mono ?_
              rintro e w1 ⟨rfl, hb1⟩
              have hb2 := hbx.more hb1
              have c0 := hb2.c0
              have c1 := hb2.c1
              go_wp2_with fail
              refine (ref_Passes K (some ⟨g, o, none⟩) n c L _ (hA.below hb2.below)).mono ?_
              rintro e w2 ⟨rfl, hb3⟩
              have hb4 := hb2.more hb3
              clear c0 c1 hb1 hb2 hb3
              have c0 := hb4.c0
              have c1 := hb4.c1
              have z2 : w2.cell? ⟨g, o, none⟩ = some (.int .i64 (la L 0).kind) := (hb4.below.cell (p := ⟨g, o, none⟩) hgl).trans hzw
              have hA2 := hA.below hb4.below
              go_wp2_with fail
              go_quiet (fail)
              go_wp2_with fail
              go_ret
              exact ⟨ret_int HF.out.symm, below_drewN hb4.below _⟩
end
end Go.Proofs.YtkjcmppaapbabaaDoor
