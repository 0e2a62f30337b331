/-
  Contract: the document's TurnOver. Conditions: the letters read and are tame.
-/
import Derived.Test.YtkjcmppaapbabaaDoorT9
import Derived.BigRegion
namespace Go.Proofs.YtkjcmppaapbabaaDoor
open Go.RowKit
def OwnD (w : World) (base : Nat) (A : Option Addr) (n c : Nat) (D : List Bool) : Prop := Row w base 1 A n c (D.map Value.bool)
theorem OwnD.len {w : World} {base : Nat} {A : Option Addr} {n c : Nat} {D : List Bool} (h : OwnD w base A n c D) : D.length = n := by
  have := Row.len h
  simpa using this
theorem OwnD.bools {w : World} {base : Nat} {A : Option Addr} {n c : Nat} {d : Nat → Bool} (h : OwnD w base A n c ((List.range n).map d)) : BoolsAt w A n d := fun hn => by
  obtain ⟨g, off, rfl, _, hlt⟩ := Row.form h hn
  refine ⟨g, off, rfl, hlt, fun i hi => ?_⟩
  exact Row.cell h (j := i) (by simp [List.getElem?_range hi])
theorem boolInfo2 : (Tryd.prog.info? 4).map (fun i => (i.zero, i.size, i.bytes)) = some (some (.bool false), 1, 1) := by kernel_rfl
theorem buildB1 (b : Bool) (w : World) : (Instr.buildSlice 84 1 #[(0, .bool b)]).run Tryd.prog w = .ok (.slice (some ⟨w.heap.size, 0, none⟩) 1 1) (w.alloc (.cells #[.bool b] 4)) := by
  obtain ⟨i0, hi, hz0, hz1, hz2⟩ := info_parts boolInfo2
  refine run_buildSlice w _ _ 1 _ _ i0 _ Tryd.underlying84 hi hz0 (by rw [hz1]; omega) (by rw [hz1]; omega) ?_
  rw [hz1]
  kernel_rfl
/-- 'append(down, b)'. -/
theorem pushD {w : World} {ops : Array Oper} {rest : List Oper} {o : Oper} {a : Act} {Q' : Exit → Act → World → Prop} (hgd : o.guard = none) (s x : Operand)
    (ho : o.op = .call { callee := .builtin .append, args := #[s, x], argTypes := #[84, 84] })
    {base : Nat} {A : Option Addr} {n c : Nat} {D : List Bool} (hst : OwnD w base A n c D) (b : Bool) (hs : a.eval s = .slice A n c)
    (H : Nat) (hH : w.heap.size = H) (hx : a.eval x = .slice (some ⟨H, 0, none⟩) 1 1) (N : Nat) (hN : n + 1 = N) (hn : N ≤ 1000000) (hbase : base ≤ w.heap.size)
    (h : ∀ A' c' w', OwnD w' base A' N c' (D ++ [b]) → w.grownBy w' (blk A) → (∀ k, blk A' = some k → blk A = some k ∨ w.heap.size ≤ k) → wpList Tryd.prog ops Q' rest (a.put o.dst (.slice A' N c')) w') :
    wpList Tryd.prog ops Q' (o :: rest) a (w.alloc (.cells #[.bool b] 4)) := by
  subst hH
  obtain ⟨i0, hi, hz0, hz1, hz2⟩ := info_parts boolInfo2
  refine appR hgd s x 84 ho 4 i0 _ 1 1 Tryd.underlying84 hi hz0 hz1 hz2 rfl (by decide) (Row.alloc hst _) (Src.new (m := 1) (cs := [.bool b]) rfl)
    (by intro u hu; simp at hu; rcases hu with rfl; rfl) hs hx N hN (by unfold maxLen; omega) (by omega) (by simp; omega) ?_
  intro A' c' w' h1 h2 h3 _
  refine h A' c' w' (by unfold OwnD; rw [List.map_append]; simpa using h1) (only_trans (World.grownBy_alloc w _ _) h2) (fun k hk => ?_)
  rcases h3 k hk with h | h
  · exact .inl h
  · right; simp at h; omega
theorem Cpy.keptG {X wr wx : World} {oB : Nat} {K : Int} {A : Option Addr} {n c : Nat} {M : List Lt} {row : Option Nat} (h : Cpy X wr oB K A n c M) (hg : wr.grownBy wx row) (hne : ∀ q, blk A = some q → row ≠ some q) (hoB : row ≠ some oB) (hX : ∀ q, row = some q → X.heap.size ≤ q) : Cpy X wx oB K A n c M :=
  ⟨⟨h.own.row.kept hg (by
    cases hb : blk A with
    | none => exact .inl rfl
    | some q => exact .inr (fun e => hne q hb e.symm)), h.own.fits, h.own.le⟩, h.bk.grown hg (fun e => hoB e.symm), h.far, h.old.trans ((Below.refl _ _).grown hg h.old.size hX)⟩
set_option maxRecDepth 100000 in
set_option maxHeartbeats 6400000 in
theorem cref_TurnOver (K : Int) (A : Option Addr) (n c : Nat) (L : List Lt) (w : World) (hA : Lets w A n L) (hs : Tame K L) :
    Calls Tryd.prog 48 #[.agg #[.int .i64 K, .slice A n c]] w (GivesC w K (turnL L)) := by
  have hle := hA.le
  have hLn := Lib.hid hA.len
  have hK0 := hs.lo
  have hK4 := hs.hi
  have HS := Lib.hid hs
  have hn4 : n ≤ 400 := by have := hs.len; have := hA.len; omega
  have hbb := buildB1
  have hbx : Boxed w ((w.alloc (.cells #[.int .i64 K, .slice A n c] 24)).alloc (.cells #[.int .i64 0, .slice none 0 0] 24)) K A n c := (Boxed.refl w K A n c).alloc _
  have hR0 : Blk ((w.alloc (.cells #[.int .i64 K, .slice A n c] 24)).alloc (.cells #[.int .i64 0, .slice none 0 0] 24)) (w.heap.size + 1) 24 #[.int .i64 0, .slice none 0 0] := heap_alloc2_new w _ _
  clear hs
  go_enter Tryd.func48, Tryd.ntmps48
  go_wp2_with fail
  generalize (w.alloc (.cells #[.int .i64 K, .slice A n c] 24)).alloc (.cells #[.int .i64 0, .slice none 0 0] 24) = X at hbx hR0 ⊢
  refine (cref_Copy K A n c L _ (hA.below hbx.below)).mono ?_
  rintro e w1 ⟨A1, n1, c1, rfl, hown, hb1⟩
  obtain rfl : n1 = n := by rw [← hown.len, hLn.out]
  have hX := hR0.lt
  have hsz1 := hb1.size
  have hC0 : Cpy X (w1.alloc (.cells #[.int .i64 K, .slice A1 n1 c1] 24)) w1.heap.size K A1 n1 c1 L :=
    ⟨hown.alloc _, Blk.new _ _ _, fun q hq => Nat.ne_of_lt (hown.row.lt q hq).2, hb1.alloc hsz1 _⟩
  have hA1lt : ∀ q, blk A1 = some q → q < w1.heap.size := fun q hq => (hown.row.lt q hq).2
  have HA1 := Lib.hid hA1lt
  have hst : Hid (Upto toLt L L 0) := Lib.hid (Upto.zero _ _)
  have hc1 : n1 ≤ c1 := hown.row.cap
  have hD0 : OwnD (w1.alloc (.cells #[.int .i64 K, .slice A1 n1 c1] 24)) (w1.heap.size + 1) none 0 0 ((List.range 0).map (fun j => !dwn L j)) := Row.none_ _ _ _
  clear hb1 hown hA1lt
  go_wp2_with fail
  go_loopw [4, 5] (fun v4 v5 wr => ∃ (i : Nat) (Lw : List Lt) (A2 : Option Addr) (c2 : Nat), i ≤ n1 ∧ v5 = .int .i64 i ∧ v4 = .slice A2 i c2 ∧ Cpy X wr w1.heap.size K A1 n1 c1 Lw ∧ OwnD wr (w1.heap.size + 1) A2 i c2 ((List.range i).map (fun j => !dwn L j)) ∧ w1.heap.size < wr.heap.size ∧ Hid (Upto toLt L Lw i)) (fun _ v5 _ => n1 - (intOf v5).toNat)
  case atStart => exact ⟨0, L, none, 0, Nat.zero_le _, rfl, rfl, hC0, hD0, by simp, hst⟩
  case round =>
    obtain ⟨i, Lw, A2, c2, hi, rfl, rfl, hC, hD, hsz, HU⟩ := hrel
    clear hC0 hst hD0
    have o1 := hC.c1
    have e0 := (hbx.more hC.old).c0
    have e1 := (hbx.more hC.old).c1
    have hszr := hC.old.size
    have hbw := below_chain hbx.below hC.old (by omega)
    have HSL := Lib.hid (show ∀ D : List Bool, (List.range i).map (fun j => !dwn L j) ++ [!dwn L i] = (List.range (i + 1)).map (fun j => !dwn L j) from fun _ => by rw [List.range_succ, List.map_append]; rfl)
    by_cases hlt : i < n1
    · obtain ⟨gg, o, rfl, hgg, hx, hok⟩ := hC.own.lets.at_ hlt
      have hlw : la Lw i = la L i := by rw [HU.out.2 i (by rw [hLn.out]; exact hlt), if_neg (by omega)]
      have hgi : Lw[i]? = some (la L i) := by rw [la_get (by rw [hC.own.len]; exact hlt), hlw]
      rw [hlw] at hx hok
      obtain ⟨y0, y1, y2, y3, y4, y5⟩ := hx
      have i0 : (0 : Int) ≤ (i : Int) := by omega
      have i1 : (i : Int) < (n1 : Int) := by omega
      have f5 := hC.free hlt (i := 5) (by omega)
      have m1 : gg ≠ w1.heap.size := hC.far gg rfl
      have m2 : gg < w1.heap.size := HA1.out gg rfl
      have HOK := Lib.hid hok
      have HGI := Lib.hid hgi
      clear hok hgi hlw
      go_upto_if 21 with fail
      go_cut [21] (fun _ wx => ∃ Lx, Cpy X wx w1.heap.size K (some ⟨gg, o, none⟩) n1 c1 Lx ∧ OwnD wx (w1.heap.size + 1) A2 i c2 ((List.range i).map (fun j => !dwn L j)) ∧ w1.heap.size < wx.heap.size ∧ Hid (Upto toLt L Lx (i + 1)))
      case first =>
        by_cases hk1 : (la L i).kind = 2
        · have q1 : ((la L i).kind == 2) = true := by simpa using hk1
          have hc2 := isC_t hk1
          have HU1 := Lib.hid (HU.out.set (by rw [hLn.out]; exact hlt) (to_c hc2).symm)
          have hok1 : LtOk { la L i with over := !(la L i).over } := ⟨HOK.out.kind, HOK.out.gate, HOK.out.rank, HOK.out.id, HOK.out.sign⟩
          have hC1 := hC.put (i := 5) (u := .bool (!(la L i).over)) (x' := { la L i with over := !(la L i).over }) HGI.out (by omega) rfl hok1 rfl
          have hD1 : OwnD (wr.setCell ⟨gg, o + (i * 6 + 5), none⟩ (.bool (!(la L i).over))) (w1.heap.size + 1) A2 i c2 ((List.range i).map (fun j => !dwn L j)) := Row.kept hD (only_setCell (World.grownBy.refl wr (some gg)) (p := ⟨gg, o + (i * 6 + 5), none⟩) (.inl rfl) (.bool (!(la L i).over))) (by
            cases hb : blk A2 with
            | none => exact .inl rfl
            | some q => exact .inr (by have := (Row.lt hD q hb).1; simp; omega))
          clear HU hk1 hc2 hok1 hC hD
          go_wp2_with fail
          go_region
          go_wp2_with fail
          go_meet
          case rel => exact ⟨_, by first | exact hC1 | exact hC1.next (Below.refl _ _).drew, by first | exact hD1 | exact Row.below hD1 (Below.refl _ _).drew, by first | exact hsz | simpa [World.setCell] using hsz, HU1⟩
        · have q1 : ((la L i).kind == 2) = false := by simpa using hk1
          have HU1 := Lib.hid (HU.out.skip (to_n (x := la L i) (isC_f hk1)))
          clear hk1 HU
          go_wp2_with fail
          go_meet
          case rel => exact ⟨Lw, hC, hD, hsz, HU1⟩
      case rest =>
        obtain ⟨Lx, hCx, hDx, hszx, HUx⟩ := hcut
        clear o1 e0 e1 y0 y1 y2 y3 y4 y5 f5 hC hD hsz HU HGI HOK hbw hszr
        have e0 := (hbx.more hCx.old).c0
        have e1 := (hbx.more hCx.old).c1
        have hbw := below_chain hbx.below hCx.old (by omega)
        go_wp2_with fail
        refine (ref_Down K i A n1 c L _ (hA.below hbw) (by omega)).mono ?_
        rintro e wD ⟨rfl, hbD⟩
        have hCd := hCx.next hbD
        have hDd : OwnD wD (w1.heap.size + 1) A2 i c2 ((List.range i).map (fun j => !dwn L j)) := Row.below hDx hbD
        have hszd := hbD.size
        clear hCx hDx e0 e1
        go_wp2_with (at_builtin; refine pushD rfl _ _ rfl hDd (!dwn L i) rfl wD.heap.size rfl rfl (i + 1) rfl (by omega) (by omega) ?_; intro A4 c4 w4 hD4 hg4 hl4)
        have hsz4 := hg4.size
        have hC4 := hCd.keptG hg4 (fun q hq e => by have := (Row.lt hDd q e).1; have := HA1.out q hq; omega) (fun e => by have := (Row.lt hDd _ e).1; omega) (fun q e => by have := (Row.lt hDd q e).1; omega)
        have hD5 : OwnD w4 (w1.heap.size + 1) A4 (i + 1) c4 ((List.range (i + 1)).map (fun j => !dwn L j)) := by rw [← HSL.out []]; exact hD4
        clear hCd hDd hg4 hl4 hD4
        go_wp2_with fail
        go_roundw
        case rel => exact ⟨i + 1, Lx, A4, c4, by omega, by go_num, rfl, hC4, hD5, by omega, HUx⟩
        case measure => simp [intOf]; omega
    · have hin : i = n1 := by omega
      subst hin
      have hU := HU.out
      rw [← hLn.out] at hU
      have hLf := hU.all
      have hown := hC.own
      rw [hLf] at hown
      have hR3 := hR0.below hC.old hX
      have o0 := hC.c0
      have hbd := hD.bools
      have hown2 := hown.lets
      have hsc := cref_Settle K A1 i c1 (L.map toLt) A2 c2 (fun j => !dwn L j) wr hown2 hc1 hbd
      have HSC := Lib.hid hsc
      have hCo := hC.old
      clear hU hLf HU hsc hbd hown2 e0 e1
      go_wp2_with fail
      refine HSC.out.mono ?_
      rintro e w5 ⟨A5, n5, c5, rfl, hL5, hb5⟩
      have hR5 := hR3.below hb5 hR3.lt
      have r0 : w5.cell? ⟨w.heap.size + 1, 0, none⟩ = some (.int .i64 0) := (hR5.cell 0).trans rfl
      have r1 : w5.cell? ⟨w.heap.size + 1, 1, none⟩ = some (.slice none 0 0) := (hR5.cell 1).trans rfl
      have z0 := hR5.frozen 0
      have z1 := hR5.frozen 1
      have hb6 := below_chain hCo hb5 hszr
      have hL6 := hL5.mono hszr
      have hG := copy_ends (w := w) (X := X) (K := K) hR5 hb6 hbx.below (by omega) hL6
      clear hR3 hR5 o0 o1
      go_wp2_with fail
      (try simp only [Exit.inBlock, Exit.then])
      refine ret_cellB rfl rfl hG.1 Tryd.underlying24 rfl (by kernel_rfl) rfl ?_
      exact ⟨A5, n5, c5, rfl, hG.2.1, hG.2.2⟩
end Go.Proofs.YtkjcmppaapbabaaDoor
