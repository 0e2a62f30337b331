/-
  Contract: the document's Settle. Conditions: the letters read; the directions read.
  Contract: the document's TurnOver. Conditions: the letters read and are tame.
  Contract: the document's Rename. Conditions: the argument reads as a code of at most 1000 letters.
-/
import Derived.Test.YtkjcmppaapbabaaDoorJK
import Derived.BigRegion
import Derived.Test.YtkjcmppaapbabaaDoorJH
namespace Go.Proofs.YtkjcmppaapbabaaDoor
section
open Go.RowKit
/-- A slice of bools that reads. -/
def BoolsAt (w : World) (B : Option Addr) (n : Nat) (d : Nat → Bool) : Prop := 0 < n → ∃ g off, B = some ⟨g, off, none⟩ ∧ g < w.heap.size ∧ ∀ i, i < n → w.cell? ⟨g, off + i, none⟩ = some (.bool (d i))
theorem BoolsAt.below {w w' : World} {B : Option Addr} {n : Nat} {d : Nat → Bool} (h : BoolsAt w B n d) (hb : Below w.heap.size w w') : BoolsAt w' B n d := fun hn => by
  obtain ⟨g, off, e, hg, hc⟩ := h hn
  exact ⟨g, off, e, Nat.lt_of_lt_of_le hg hb.size, fun i hi => (hb.cell (p := ⟨g, off + i, none⟩) hg).trans (hc i hi)⟩
theorem Lets.from' {w : World} {g o n i c : Nat} {L : List Lt} (h : Lets w (some ⟨g, o, none⟩) n L) (hi : i ≤ n) (hc : n ≤ c) : Lets w (if c = i then some ⟨g, o, none⟩ else some ⟨g, o + i * 6, none⟩) (n - i) (L.drop i) := by
  have := h.from hi hc
  simpa [Addr.add_lit] using this
set_option maxRecDepth 100000 in
set_option maxHeartbeats 6400000 in
theorem cref_Settle (K : Int) (A : Option Addr) (n c : Nat) (L : List Lt) (B : Option Addr) (m : Nat) (d : Nat → Bool) (w : World) (hA : Lets w A n L) (hc : n ≤ c) (hB : BoolsAt w B n d) :
    Calls Tryd.prog 96 #[.agg #[.int .i64 K, .slice A n c], .slice B n m] w (GivesC w K (settleL L d)) := by
  have hle := hA.le
  have hLn := Lib.hid hA.len
  have hbc2 := build_code2
  have hbx : Boxed w ((w.alloc (.cells #[.int .i64 K, .slice A n c] 24)).alloc (.cells #[.int .i64 0, .slice none 0 0] 24)) K A n c := (Boxed.refl w K A n c).alloc _
  have hR0 : Blk ((w.alloc (.cells #[.int .i64 K, .slice A n c] 24)).alloc (.cells #[.int .i64 0, .slice none 0 0] 24)) (w.heap.size + 1) 24 #[.int .i64 0, .slice none 0 0] := heap_alloc2_new w _ _
  go_enter Tryd.func96, Tryd.ntmps96
  go_wp2_with fail
  generalize (w.alloc (.cells #[.int .i64 K, .slice A n c] 24)).alloc (.cells #[.int .i64 0, .slice none 0 0] 24) = X at hbx hR0 ⊢
  have x0 := hbx.c0
  have x1 := hbx.c1
  have hX := hR0.lt
  have hAX := hA.below hbx.below
  have hBX := hB.below hbx.below
  have hst : Hid (∀ i, i < 0 → (isP (la L i) && d i) = false) := Lib.hid (fun i hi => by omega)
  have HBX := Lib.hid hBX
  clear hBX hB
  go_loop [5] (fun v5 => ∃ i : Nat, i ≤ n ∧ v5 = .int .i64 i ∧ Hid (∀ j, j < i → (isP (la L j) && d j) = false)) (fun v5 => n - (intOf v5).toNat)
  case atStart => exact ⟨0, Nat.zero_le _, rfl, hst⟩
  case round =>
    obtain ⟨i, hi, rfl, HN⟩ := hrel
    clear hst
    by_cases hlt : i < n
    · obtain ⟨ga, oa, rfl, hga, hxa, hok⟩ := hAX.at_ hlt
      obtain ⟨z0, z1, z2, z3, z4, z5⟩ := hxa
      obtain ⟨gb, ob, rfl, hgb, hbc⟩ := HBX.out (by omega)
      have hbi := hbc i hlt
      have i0 : (0 : Int) ≤ (i : Int) := by omega
      have i1 : (i : Int) < (n : Int) := by omega
      clear hbc
      by_cases hk1 : (la L i).kind = 1
      · have q1 : ((la L i).kind == 1) = true := by simpa using hk1
        cases hdi : d i with
        | true =>
          rw [hdi] at hbi
          have HS := Lib.hid (settle_at (L := L) (d := d) HN.out (by rw [isP_t hk1, hdi]; rfl) (by rw [hLn.out]; exact hlt))
          have i2 : (i : Int) ≤ (n : Int) := by omega
          have i3 : (i : Int) ≤ (c : Int) := by omega
          have f0 := hR0.frozen 0
          have f1 := hR0.frozen 1
          clear hdi hk1 HN
          go_upto_region 5 with fail
          go_region_law (first
            | ((refine stepL (base := X.heap.size) (A := none) (n := 0) (c := 0) (L := []) (m := n - i) (d := c - i) (M := L.drop i) rfl (.const (.slice none 0 0)) (.tmp 31) (by rfl) (by rfl) (by rfl) (OwnL.nil _ _) (Lets.from' (c := c) (hAX.below (Below.refl _ _).drew) (by omega) hc) (n - i) (by omega) (by omega) (Nat.le_refl _) ?_)
               intro A1 c1 w1 hown1 hg1 hl1
               have kg1 : X.grownBy w1 (blk none) := ⟨hg1.os, hg1.tape, hg1.output, hg1.size, hg1.block⟩
               have kb1 : Below X.heap.size X w1 := (Below.refl _ _).grown kg1 (Nat.le_refl _) (fun k hk => by cases hk)
               have u0 : w1.cell? ⟨w.heap.size, 0, none⟩ = some (.int .i64 K) := (hbx.more kb1).c0
               have u1 : w1.cell? ⟨w.heap.size, 1, none⟩ = some (.slice (some ⟨ga, oa, none⟩) n c) := (hbx.more kb1).c1)
            | ((refine stepL (base := X.heap.size) (m := i) (d := c) (M := L.take i) rfl (.tmp 32) (.tmp 36) (by rfl) (by rfl) (by rfl) hown1 (Lets.to (hAX.below kb1) (by omega)) n (by omega) (by omega) kb1.size ?_)
               intro A2 c2 w2 hown2 hg2 hl2
               have kb2 : Below X.heap.size X w2 := kb1.trans ((Below.refl _ _).grown hg2 kb1.size (fun k hk => (hown1.row.lt k hk).1))
               have t0 : w2.cell? ⟨w.heap.size, 0, none⟩ = some (.int .i64 K) := (hbx.more kb2).c0
               have r0 : w2.cell? ⟨w.heap.size + 1, 0, none⟩ = some (.int .i64 0) := ((hR0.below kb2 hX).cell 0).trans rfl
               have r1 : w2.cell? ⟨w.heap.size + 1, 1, none⟩ = some (.slice none 0 0) := ((hR0.below kb2 hX).cell 1).trans rfl
               have g0 := (hR0.below kb2 hX).frozen 0
               have g1 := (hR0.below kb2 hX).frozen 1))
          all_goals
            have hG := copy_ends (w := w) (X := X) (K := K) (hR0.below kb2 hX) kb2 hbx.below (by omega) hown2
            go_wp2_with fail
            all_goals
              (try simp only [Exit.inBlock, Exit.then])
              refine ret_cellB rfl rfl hG.1 Tryd.underlying24 rfl (by kernel_rfl) rfl ?_
              exact ⟨A2, n, c2, rfl, by rw [HS.out]; simpa [rotT] using hG.2.1, hG.2.2⟩
        | false =>
          rw [hdi] at hbi
          have HN1 := Lib.hid (show ∀ j, j < i + 1 → (isP (la L j) && d j) = false from fun j hj => by
            rcases Nat.decEq j i with e | e
            · exact HN.out j (by omega)
            · subst e; rw [hdi]; simp)
          clear hdi hk1 HN
          go_wp2_with fail
          go_round
          case rel => exact ⟨i + 1, by omega, by go_num, HN1⟩
          case measure => simp [intOf]; omega
      · have q1 : ((la L i).kind == 1) = false := by simpa using hk1
        have HN1 := Lib.hid (show ∀ j, j < i + 1 → (isP (la L j) && d j) = false from fun j hj => by
          rcases Nat.decEq j i with e | e
          · exact HN.out j (by omega)
          · subst e; rw [isP_f hk1]; rfl)
        clear hk1 HN
        go_wp2_with fail
        go_round
        case rel => exact ⟨i + 1, by omega, by go_num, HN1⟩
        case measure => simp [intOf]; omega
    · have hin : i = n := by omega
      have HS := Lib.hid (settle_none (L := L) (d := d) (by rw [hLn.out, ← hin]; exact HN.out))
      have i1 : ¬ (i : Int) < (n : Int) := by omega
      clear hin HN
      go_wp2_with fail
      refine (cref_Copy K A n c L _ hAX).mono ?_
      rintro e w1 ⟨A1, n1, c1, rfl, hown, hb1⟩
      have hR1 := hR0.below hb1 hX
      have r0 : w1.cell? ⟨w.heap.size + 1, 0, none⟩ = some (.int .i64 0) := (hR1.cell 0).trans rfl
      have r1 : w1.cell? ⟨w.heap.size + 1, 1, none⟩ = some (.slice none 0 0) := (hR1.cell 1).trans rfl
      have g0 := hR1.frozen 0
      have g1 := hR1.frozen 1
      have hG := copy_ends (w := w) (X := X) (K := K) hR1 hb1 hbx.below (by omega) hown
      clear hR1 x0 x1
      go_wp2_with fail
      (try simp only [Exit.inBlock, Exit.then])
      refine ret_cellB rfl rfl hG.1 Tryd.underlying24 rfl (by kernel_rfl) rfl ?_
      exact ⟨A1, n1, c1, rfl, by rw [HS.out]; exact hG.2.1, hG.2.2⟩
end

section
open Go.RowKit
def OwnD (w : World) (base : Nat) (A : Option Addr) (n c : Nat) (D : List Bool) : Prop := Row w base 1 A n c (D.map Value.bool)
theorem OwnD.len {w : World} {base : Nat} {A : Option Addr} {n c : Nat} {D : List Bool} (h : OwnD w base A n c D) : D.length = n := by
  have := Row.len h
  simpa using this
theorem OwnD.bools {w : World} {base : Nat} {A : Option Addr} {n c : Nat} {d : Nat → Bool} (h : OwnD w base A n c ((List.range n).map d)) : BoolsAt w A n d := fun hn => by
  obtain ⟨g, off, rfl, _, hlt⟩ := Row.form h hn
  refine ⟨g, off, rfl, hlt, fun i hi => ?_⟩
  exact Row.cell h (j := i) (by simp [List.getElem?_range hi])
theorem boolInfo2 : (Tryd.prog.info? 4).map (fun i => (i.zero, i.size, i.bytes)) = some (some (.bool false), 1, 1) := by kernel_rfl
theorem buildB1 (b : Bool) (w : World) : (Instr.buildSlice 84 1 #[(0, .bool b)]).run Tryd.prog w = .ok (.slice (some ⟨w.heap.size, 0, none⟩) 1 1) (w.alloc (.cells #[.bool b] 4)) := by
  obtain ⟨i0, hi, hz0, hz1, hz2⟩ := info_parts boolInfo2
  refine run_buildSlice w _ _ 1 _ _ i0 _ Tryd.underlying84 hi hz0 (by rw [hz1]; omega) (by rw [hz1]; omega) ?_
  rw [hz1]
  kernel_rfl
/-- 'append(down, b)'. -/
theorem pushD {w : World} {ops : Array Oper} {rest : List Oper} {o : Oper} {a : Act} {Q' : Exit → Act → World → Prop} (hgd : o.guard = none) (s x : Operand)
    (ho : o.op = .call { callee := .builtin .append, args := #[s, x], argTypes := #[84, 84] })
    {base : Nat} {A : Option Addr} {n c : Nat} {D : List Bool} (hst : OwnD w base A n c D) (b : Bool) (hs : a.eval s = .slice A n c)
    (H : Nat) (hH : w.heap.size = H) (hx : a.eval x = .slice (some ⟨H, 0, none⟩) 1 1) (N : Nat) (hN : n + 1 = N) (hn : N ≤ 1000000) (hbase : base ≤ w.heap.size)
    (h : ∀ A' c' w', OwnD w' base A' N c' (D ++ [b]) → w.grownBy w' (blk A) → (∀ k, blk A' = some k → blk A = some k ∨ w.heap.size ≤ k) → wpList Tryd.prog ops Q' rest (a.put o.dst (.slice A' N c')) w') :
    wpList Tryd.prog ops Q' (o :: rest) a (w.alloc (.cells #[.bool b] 4)) := by
  subst hH
  obtain ⟨i0, hi, hz0, hz1, hz2⟩ := info_parts boolInfo2
  refine appR hgd s x 84 ho 4 i0 _ 1 1 Tryd.underlying84 hi hz0 hz1 hz2 rfl (by decide) (Row.alloc hst _) (Src.new (m := 1) (cs := [.bool b]) rfl)
    (by intro u hu; simp at hu; rcases hu with rfl; rfl) hs hx N hN (by unfold maxLen; omega) (by omega) (by simp; omega) ?_
  intro A' c' w' h1 h2 h3 _
  refine h A' c' w' (by unfold OwnD; rw [List.map_append]; simpa using h1) (only_trans (World.grownBy_alloc w _ _) h2) (fun k hk => ?_)
  rcases h3 k hk with h | h
  · exact .inl h
  · right; simp at h; omega
theorem Cpy.keptG {X wr wx : World} {oB : Nat} {K : Int} {A : Option Addr} {n c : Nat} {M : List Lt} {row : Option Nat} (h : Cpy X wr oB K A n c M) (hg : wr.grownBy wx row) (hne : ∀ q, blk A = some q → row ≠ some q) (hoB : row ≠ some oB) (hX : ∀ q, row = some q → X.heap.size ≤ q) : Cpy X wx oB K A n c M :=
  ⟨⟨h.own.row.kept hg (by
    cases hb : blk A with
    | none => exact .inl rfl
    | some q => exact .inr (fun e => hne q hb e.symm)), h.own.fits, h.own.le⟩, h.bk.grown hg (fun e => hoB e.symm), h.far, h.old.trans ((Below.refl _ _).grown hg h.old.size hX)⟩
set_option maxRecDepth 100000 in
set_option maxHeartbeats 6400000 in
theorem cref_TurnOver (K : Int) (A : Option Addr) (n c : Nat) (L : List Lt) (w : World) (hA : Lets w A n L) (hs : Tame K L) :
    Calls Tryd.prog 48 #[.agg #[.int .i64 K, .slice A n c]] w (GivesC w K (turnL L)) := by
  have hle := hA.le
  have hLn := Lib.hid hA.len
  have hK0 := hs.lo
  have hK4 := hs.hi
  have HS := Lib.hid hs
  have hn4 : n ≤ 400 := by have := hs.len; have := hA.len; omega
  have hbb := buildB1
  have hbx : Boxed w ((w.alloc (.cells #[.int .i64 K, .slice A n c] 24)).alloc (.cells #[.int .i64 0, .slice none 0 0] 24)) K A n c := (Boxed.refl w K A n c).alloc _
  have hR0 : Blk ((w.alloc (.cells #[.int .i64 K, .slice A n c] 24)).alloc (.cells #[.int .i64 0, .slice none 0 0] 24)) (w.heap.size + 1) 24 #[.int .i64 0, .slice none 0 0] := heap_alloc2_new w _ _
  clear hs
  go_enter Tryd.func48, Tryd.ntmps48
  go_wp2_with fail
  generalize (w.alloc (.cells #[.int .i64 K, .slice A n c] 24)).alloc (.cells #[.int .i64 0, .slice none 0 0] 24) = X at hbx hR0 ⊢
  refine (cref_Copy K A n c L _ (hA.below hbx.below)).mono ?_
  rintro e w1 ⟨A1, n1, c1, rfl, hown, hb1⟩
  obtain rfl : n1 = n := by rw [← hown.len, hLn.out]
  have hX := hR0.lt
  have hsz1 := hb1.size
  have hC0 : Cpy X (w1.alloc (.cells #[.int .i64 K, .slice A1 n1 c1] 24)) w1.heap.size K A1 n1 c1 L :=
    ⟨hown.alloc _, Blk.new _ _ _, fun q hq => Nat.ne_of_lt (hown.row.lt q hq).2, hb1.alloc hsz1 _⟩
  have hA1lt : ∀ q, blk A1 = some q → q < w1.heap.size := fun q hq => (hown.row.lt q hq).2
  have HA1 := Lib.hid hA1lt
  have hst : Hid (Upto toLt L L 0) := Lib.hid (Upto.zero _ _)
  have hc1 : n1 ≤ c1 := hown.row.cap
  have hD0 : OwnD (w1.alloc (.cells #[.int .i64 K, .slice A1 n1 c1] 24)) (w1.heap.size + 1) none 0 0 ((List.range 0).map (fun j => !dwn L j)) := Row.none_ _ _ _
  clear hb1 hown hA1lt
  go_wp2_with fail
  go_loopw [4, 5] (fun v4 v5 wr => ∃ (i : Nat) (Lw : List Lt) (A2 : Option Addr) (c2 : Nat), i ≤ n1 ∧ v5 = .int .i64 i ∧ v4 = .slice A2 i c2 ∧ Cpy X wr w1.heap.size K A1 n1 c1 Lw ∧ OwnD wr (w1.heap.size + 1) A2 i c2 ((List.range i).map (fun j => !dwn L j)) ∧ w1.heap.size < wr.heap.size ∧ Hid (Upto toLt L Lw i)) (fun _ v5 _ => n1 - (intOf v5).toNat)
  case atStart => exact ⟨0, L, none, 0, Nat.zero_le _, rfl, rfl, hC0, hD0, by simp, hst⟩
  case round =>
    obtain ⟨i, Lw, A2, c2, hi, rfl, rfl, hC, hD, hsz, HU⟩ := hrel
    clear hC0 hst hD0
    have o1 := hC.c1
    have e0 := (hbx.more hC.old).c0
    have e1 := (hbx.more hC.old).c1
    have hszr := hC.old.size
    have hbw := below_chain hbx.below hC.old (by omega)
    have HSL := Lib.hid (show ∀ D : List Bool, (List.range i).map (fun j => !dwn L j) ++ [!dwn L i] = (List.range (i + 1)).map (fun j => !dwn L j) from fun _ => by rw [List.range_succ, List.map_append]; rfl)
    by_cases hlt : i < n1
    · obtain ⟨gg, o, rfl, hgg, hx, hok⟩ := hC.own.lets.at_ hlt
      have hlw : la Lw i = la L i := by rw [HU.out.2 i (by rw [hLn.out]; exact hlt), if_neg (by omega)]
      have hgi : Lw[i]? = some (la L i) := by rw [la_get (by rw [hC.own.len]; exact hlt), hlw]
      rw [hlw] at hx hok
      obtain ⟨y0, y1, y2, y3, y4, y5⟩ := hx
      have i0 : (0 : Int) ≤ (i : Int) := by omega
      have i1 : (i : Int) < (n1 : Int) := by omega
      have f5 := hC.free hlt (i := 5) (by omega)
      have m1 : gg ≠ w1.heap.size := hC.far gg rfl
      have m2 : gg < w1.heap.size := HA1.out gg rfl
      have HOK := Lib.hid hok
      have HGI := Lib.hid hgi
      clear hok hgi hlw
      go_upto_if 21 with fail
      go_cut [21] (fun _ wx => ∃ Lx, Cpy X wx w1.heap.size K (some ⟨gg, o, none⟩) n1 c1 Lx ∧ OwnD wx (w1.heap.size + 1) A2 i c2 ((List.range i).map (fun j => !dwn L j)) ∧ w1.heap.size < wx.heap.size ∧ Hid (Upto toLt L Lx (i + 1)))
      case first =>
        by_cases hk1 : (la L i).kind = 2
        · have q1 : ((la L i).kind == 2) = true := by simpa using hk1
          have hc2 := isC_t hk1
          have HU1 := Lib.hid (HU.out.set (by rw [hLn.out]; exact hlt) (to_c hc2).symm)
          have hok1 : LtOk { la L i with over := !(la L i).over } := ⟨HOK.out.kind, HOK.out.gate, HOK.out.rank, HOK.out.id, HOK.out.sign⟩
          have hC1 := hC.put (i := 5) (u := .bool (!(la L i).over)) (x' := { la L i with over := !(la L i).over }) HGI.out (by omega) rfl hok1 rfl
          have hD1 : OwnD (wr.setCell ⟨gg, o + (i * 6 + 5), none⟩ (.bool (!(la L i).over))) (w1.heap.size + 1) A2 i c2 ((List.range i).map (fun j => !dwn L j)) := Row.kept hD (only_setCell (World.grownBy.refl wr (some gg)) (p := ⟨gg, o + (i * 6 + 5), none⟩) (.inl rfl) (.bool (!(la L i).over))) (by
            cases hb : blk A2 with
            | none => exact .inl rfl
            | some q => exact .inr (by have := (Row.lt hD q hb).1; simp; omega))
          clear HU hk1 hc2 hok1 hC hD
          go_wp2_with fail
          go_region
          go_wp2_with fail
          go_meet
          case rel => exact ⟨_, by first | exact hC1 | exact hC1.next (Below.refl _ _).drew, by first | exact hD1 | exact Row.below hD1 (Below.refl _ _).drew, by first | exact hsz | simpa [World.setCell] using hsz, HU1⟩
        · have q1 : ((la L i).kind == 2) = false := by simpa using hk1
          have HU1 := Lib.hid (HU.out.skip (to_n (x := la L i) (isC_f hk1)))
          clear hk1 HU
          go_wp2_with fail
          go_meet
          case rel => exact ⟨Lw, hC, hD, hsz, HU1⟩
      case rest =>
        obtain ⟨Lx, hCx, hDx, hszx, HUx⟩ := hcut
        clear o1 e0 e1 y0 y1 y2 y3 y4 y5 f5 hC hD hsz HU HGI HOK hbw hszr
        have e0 := (hbx.more hCx.old).c0
        have e1 := (hbx.more hCx.old).c1
        have hbw := below_chain hbx.below hCx.old (by omega)
        go_wp2_with fail
        refine (ref_Down K i A n1 c L _ (hA.below hbw) (by omega)).mono ?_
        rintro e wD ⟨rfl, hbD⟩
        have hCd := hCx.next hbD
        have hDd : OwnD wD (w1.heap.size + 1) A2 i c2 ((List.range i).map (fun j => !dwn L j)) := Row.below hDx hbD
        have hszd := hbD.size
        clear hCx hDx e0 e1
        go_wp2_with (at_builtin; refine pushD rfl _ _ rfl hDd (!dwn L i) rfl wD.heap.size rfl rfl (i + 1) rfl (by omega) (by omega) ?_; intro A4 c4 w4 hD4 hg4 hl4)
        have hsz4 := hg4.size
        have hC4 := hCd.keptG hg4 (fun q hq e => by have := (Row.lt hDd q e).1; have := HA1.out q hq; omega) (fun e => by have := (Row.lt hDd _ e).1; omega) (fun q e => by have := (Row.lt hDd q e).1; omega)
        have hD5 : OwnD w4 (w1.heap.size + 1) A4 (i + 1) c4 ((List.range (i + 1)).map (fun j => !dwn L j)) := by rw [← HSL.out []]; exact hD4
        clear hCd hDd hg4 hl4 hD4
        go_wp2_with fail
        go_roundw
        case rel => exact ⟨i + 1, Lx, A4, c4, by omega, by go_num, rfl, hC4, hD5, by omega, HUx⟩
        case measure => simp [intOf]; omega
    · have hin : i = n1 := by omega
      subst hin
      have hU := HU.out
      rw [← hLn.out] at hU
      have hLf := hU.all
      have hown := hC.own
      rw [hLf] at hown
      have hR3 := hR0.below hC.old hX
      have o0 := hC.c0
      have hbd := hD.bools
      have hown2 := hown.lets
      have hsc := cref_Settle K A1 i c1 (L.map toLt) A2 c2 (fun j => !dwn L j) wr hown2 hc1 hbd
      have HSC := Lib.hid hsc
      have hCo := hC.old
      clear hU hLf HU hsc hbd hown2 e0 e1
      go_wp2_with fail
      refine HSC.out.mono ?_
      rintro e w5 ⟨A5, n5, c5, rfl, hL5, hb5⟩
      have hR5 := hR3.below hb5 hR3.lt
      have r0 : w5.cell? ⟨w.heap.size + 1, 0, none⟩ = some (.int .i64 0) := (hR5.cell 0).trans rfl
      have r1 : w5.cell? ⟨w.heap.size + 1, 1, none⟩ = some (.slice none 0 0) := (hR5.cell 1).trans rfl
      have z0 := hR5.frozen 0
      have z1 := hR5.frozen 1
      have hb6 := below_chain hCo hb5 hszr
      have hL6 := hL5.mono hszr
      have hG := copy_ends (w := w) (X := X) (K := K) hR5 hb6 hbx.below (by omega) hL6
      clear hR3 hR5 o0 o1
      go_wp2_with fail
      (try simp only [Exit.inBlock, Exit.then])
      refine ret_cellB rfl rfl hG.1 Tryd.underlying24 rfl (by kernel_rfl) rfl ?_
      exact ⟨A5, n5, c5, rfl, hG.2.1, hG.2.2⟩
end

section
open Go.RowKit
theorem atI_pos {M : List Int} {d : Int} (h : d ∈ M) : atI M d = ((posI M d : Nat) : Int) := by unfold atI posI; rw [if_pos h]
theorem atI_no {M : List Int} {d : Int} (h : d ∉ M) : atI M d = -1 := by unfold atI; rw [if_neg h]
set_option maxRecDepth 100000 in
set_option maxHeartbeats 12800000 in
theorem cref_Rename (K : Int) (A : Option Addr) (n c : Nat) (L : List Lt) (w : World) (hA : Lets w A n L) (hn : n ≤ 1000) :
    Calls Tryd.prog 52 #[.agg #[.int .i64 K, .slice A n c]] w (GivesC w K (renL L)) := by
  have hle := hA.le
  have hLn := Lib.hid hA.len
  have hbx : Boxed w ((w.alloc (.cells #[.int .i64 K, .slice A n c] 24)).alloc (.cells #[.int .i64 0, .slice none 0 0] 24)) K A n c := (Boxed.refl w K A n c).alloc _
  have hR0 : Blk ((w.alloc (.cells #[.int .i64 K, .slice A n c] 24)).alloc (.cells #[.int .i64 0, .slice none 0 0] 24)) (w.heap.size + 1) 24 #[.int .i64 0, .slice none 0 0] := heap_alloc2_new w _ _
  go_enter Tryd.func52, Tryd.ntmps52
  go_wp2_with fail
  generalize (w.alloc (.cells #[.int .i64 K, .slice A n c] 24)).alloc (.cells #[.int .i64 0, .slice none 0 0] 24) = X at hbx hR0 ⊢
  refine (cref_Copy K A n c L _ (hA.below hbx.below)).mono ?_
  rintro e w1 ⟨A1, n1, c1, rfl, hown, hb1⟩
  obtain rfl : n1 = n := by rw [← hown.len, hLn.out]
  have hX := hR0.lt
  have hsz1 := hb1.size
  have HA1 := Lib.hid (show ∀ q, A1 = some q → q.block < w1.heap.size from fun q hq => (hown.row.lt q.block (by rw [hq]; rfl)).2)
  have hC0 : Cpy X (w1.alloc (.cells #[.int .i64 K, .slice A1 n1 c1] 24)) w1.heap.size K A1 n1 c1 L :=
    ⟨hown.alloc _, Blk.new _ _ _, fun q hq => Nat.ne_of_lt (hown.row.lt q hq).2, hb1.alloc hsz1 _⟩
  have hst : Hid (Upto (rnLt (metL L)) L L 0) := Lib.hid (Upto.zero _ _)
  have hO0 : Own (w1.alloc (.cells #[.int .i64 K, .slice A1 n1 c1] 24)) (w1.heap.size + 1) none 0 0 [] := Own.nil _ _
  have hz0 : w1.heap.size < (w1.alloc (.cells #[.int .i64 K, .slice A1 n1 c1] 24)).heap.size := by simp
  clear hb1 hown
  go_wp2_with fail
  go_loopw [4, 5] (fun v4 v5 wr => ∃ (i : Nat) (Lw : List Lt) (B : Option Addr) (m d : Nat) (M : List Int), i ≤ n1 ∧ v5 = .int .i64 i ∧ v4 = .slice B m d ∧ Cpy X wr w1.heap.size K A1 n1 c1 Lw ∧ Own wr (w1.heap.size + 1) B m d M ∧ w1.heap.size < wr.heap.size ∧ Hid (Upto (rnLt (metL L)) L Lw i) ∧ Hid (M = metT L i)) (fun _ v5 _ => n1 - (intOf v5).toNat)
  case atStart => exact ⟨0, L, none, 0, 0, [], Nat.zero_le _, rfl, rfl, hC0, hO0, hz0, hst, Lib.hid rfl⟩
  case round =>
    obtain ⟨i, Lw, B, m, d, M, hi, rfl, rfl, hC, hO, hsz, HU, HM⟩ := hrel
    clear hC0 hst hO0 hz0
    have o1 := hC.c1
    have hszr := hC.old.size
    by_cases hlt : i < n1
    · obtain ⟨gg, o, rfl, hgg, hx, hok⟩ := hC.own.lets.at_ hlt
      have hlw : la Lw i = la L i := by rw [HU.out.2 i (by rw [hLn.out]; exact hlt), if_neg (by omega)]
      have hgi : Lw[i]? = some (la L i) := by rw [la_get (by rw [hC.own.len]; exact hlt), hlw]
      rw [hlw] at hx hok
      obtain ⟨y0, y1, y2, y3, y4, y5⟩ := hx
      have i0 : (0 : Int) ≤ (i : Int) := by omega
      have i1 : (i : Int) < (n1 : Int) := by omega
      have HOK := Lib.hid hok
      have HGI := Lib.hid hgi
      have HLW := Lib.hid hlw
      have m2 : gg < w1.heap.size := HA1.out _ rfl
      have hgX : X.heap.size ≤ gg := (hC.own.row.at_ _ rfl).2.1
      clear hok hgi hlw
      by_cases hk1 : (la L i).kind = 2
      · have q1 : ((la L i).kind != 2) = false := by simpa using hk1
        have hc2 := isC_t hk1
        obtain ⟨D, hD⟩ : ∃ D, (la L i).id = D := ⟨_, rfl⟩
        have hD64 : I64 D := by rw [← hD]; exact HOK.out.id
        have hML : M.length ≤ i := by rw [HM.out]; exact met_len L i
        have HML := Lib.hid hML
        have HD := Lib.hid hD
        have HC2 := Lib.hid hc2
        rw [hD] at y3
        have hmlen : m = M.length := hO.len.symm
        have HMm := Lib.hid hmlen
        have hm1000 : m ≤ 1000 := by omega
        obtain ⟨a, ha⟩ : ∃ a, atI M D = a := ⟨_, rfl⟩
        have hat0 := ref_at B m d M D wr hO.ints
        rw [ha] at hat0
        have HA0 := Lib.hid hat0
        have HA := Lib.hid ha
        clear hk1 hc2 hD hML hmlen hat0 ha
        go_upto_if 30 with ((go_at_call 101; refine HA0.out.mono ?_; rintro e w' ⟨rfl, rfl⟩))
        go_cut [4, 30] (fun v4 _ wx => ∃ (B2 : Option Addr) (m2 d2 : Nat) (M2 : List Int), v4 = .slice B2 m2 d2 ∧ Cpy X wx w1.heap.size K (some ⟨gg, o, none⟩) n1 c1 Lw ∧ Own wx (w1.heap.size + 1) B2 m2 d2 M2 ∧ w1.heap.size < wx.heap.size ∧ Hid (M2 = metT L (i + 1)) ∧ Hid (D ∈ M2))
        case first =>
          by_cases hmd : D ∈ M
          · have hat : ¬ a < 0 := by rw [← HA.out, atI_pos hmd]; omega
            have hat2 : decide (a < 0) = false := by simpa using hat
            have HM1 := Lib.hid (show M = metT L (i + 1) by rw [met_old (L := L) (m := i) (by rw [HD.out, ← HM.out]; exact hmd)]; exact HM.out)
            have HMD := Lib.hid hmd
            clear hmd
            go_wp2_with fail
            go_meet
            case rel => exact ⟨B, m, d, M, rfl, hC, hO, hsz, HM1, HMD⟩
          · have hat : a < 0 := by rw [← HA.out, atI_no hmd]; omega
            have hat2 : decide (a < 0) = true := by simpa using hat
            have HM1 := Lib.hid (show M ++ [D] = metT L (i + 1) by
              have := met_new (L := L) (m := i) HC2.out (by rw [HD.out, ← HM.out]; exact hmd)
              rw [this, HD.out, ← HM.out])
            clear hmd
            go_wp2_with (at_builtin; refine app1 rfl _ _ rfl (hO.alloc _) D rfl rfl ?c1 hD64 (by omega) ?c3 ?_)
            case c1 => rw [World.cell?_alloc_at _ _ _ _ rfl]; rfl
            case c3 => simp; omega
            intro B' d' w2 hO' hb' hg' _
            have hCa := hC.alloc (.cells #[.int .i64 D] 3)
            have hC' := hCa.keptG hg' (fun q hq e => by have := (hO.lt q e).1; simp only [blk] at hq; injection hq with hq; omega) (fun e => by have := (hO.lt _ e).1; omega) (fun q e => by have := (hO.lt q e).1; omega)
            have hsz' : w1.heap.size < w2.heap.size := by have := hg'.size; simp at this; omega
            clear hC hCa hO hb' hg'
            go_wp2_with fail
            go_meet
            case rel => exact ⟨B', m + 1, d', M ++ [D], rfl, hC', hO', hsz', HM1, Lib.hid (by simp)⟩
        case rest =>
          obtain ⟨B2, m2', d2, M2, rfl, hC2, hO2, hsz2, HM2, HMD⟩ := hcut
          clear hC hO hsz o1 y0 y1 y2 y3 y4 y5 hszr hgg
          have hszr2 := hC2.old.size
          have hbw := below_chain hbx.below hC2.old (by omega)
          have e1 := (hbx.more hC2.old).c1
          obtain ⟨ga, oa, rfl, hga, hxa, _⟩ := (hA.below hbw).at_ hlt
          obtain ⟨z0, z1, z2, z3, z4, z5⟩ := hxa
          rw [HD.out] at z3
          have o1 := hC2.c1
          have hf3 := hC2.free hlt (i := 3) (by omega)
          have hgg2 : gg < wc.heap.size := by omega
          have hx2 := (hC2.own.lets.also hlt).1
          rw [HLW.out] at hx2
          have hx3 := hx2.id
          rw [HD.out] at hx3
          have hga2 : ga < w.heap.size := by
            obtain ⟨g', o', e', h', _⟩ := hA.at_ hlt
            injection e' with e'; injection e' with e1' e2'; omega
          obtain ⟨P, hP⟩ : ∃ P : Nat, posI M2 D = P := ⟨_, rfl⟩
          have hPl : P < M2.length := by rw [← hP]; exact pos_lt HMD.out
          have hM2l : M2.length ≤ 1001 := by rw [HM2.out]; have := met_len L (i + 1); omega
          have hat : ∀ W, Below wc.heap.size wc W → Calls Tryd.prog 101 #[.slice B2 m2' d2, .int .i64 D] W fun e w' => e = .returned (.int .i64 (P : Int)) ∧ Below W.heap.size W w' := fun W hW => by
            refine (ref_at B2 m2' d2 M2 D W (hO2.ints.below hW)).mono ?_
            rintro e w' ⟨rfl, rfl⟩
            exact ⟨by rw [atI_pos HMD.out, hP], Below.refl _ _⟩
          have HAT := Lib.hid hat
          have v1 : IntKind.i64.wrap ((P : Int) + 1) = (P : Int) + 1 := IntWalk.i64_in _ (by omega)
          have hokn : LtOk { la L i with id := (P : Int) + 1 } := ⟨HOK.out.kind, HOK.out.gate, HOK.out.rank, ⟨by simp only []; omega, by simp only []; omega⟩, HOK.out.sign⟩
          have HU1 := Lib.hid (HU.out.set (by rw [hLn.out]; exact hlt) (x := { la L i with id := (P : Int) + 1 }) (by rw [rn_at (by rw [hLn.out]; exact hlt) HC2.out, ← HM2.out, HD.out, hP]))
          have HOKN := Lib.hid hokn
          have hC3 := fun W (hW : Below wc.heap.size wc W) => (hC2.next hW).put (i := 3) (u := .int .i64 ((P : Int) + 1)) (x' := { la L i with id := (P : Int) + 1 }) HGI.out (by omega) rfl HOKN.out rfl
          have hO3 : ∀ W, Below wc.heap.size wc W → Own (W.setCell ⟨gg, o + (i * 6 + 3), none⟩ (.int .i64 ((P : Int) + 1))) (w1.heap.size + 1) B2 m2' d2 M2 := fun W hW =>
            (hO2.below hW).kept (only_setCell (World.grownBy.refl W (some gg)) (p := ⟨gg, o + (i * 6 + 3), none⟩) (.inl rfl) _) (by
              cases hb : blk B2 with
              | none => exact .inl rfl
              | some q => exact .inr (by have := (hO2.lt q hb).1; simp; omega))
          have HC3 := Lib.hid hC3
          have HO3 := Lib.hid hO3
          have hS0 : ∀ wx, Below wc.heap.size wc wx → (wx.cell? ⟨w.heap.size, 1, none⟩ = some (.slice (some ⟨ga, oa, none⟩) n1 c) ∧ wx.cell? ⟨w1.heap.size, 1, none⟩ = some (.slice (some ⟨gg, o, none⟩) n1 c1) ∧ wx.cell? ⟨ga, oa + i * 6 + 3, none⟩ = some (.int .i64 D)) := fun wx h =>
            ⟨(h.cell (p := ⟨w.heap.size, 1, none⟩) (by simp; omega)).trans e1, (h.cell (p := ⟨w1.heap.size, 1, none⟩) hsz2).trans o1, (h.cell (p := ⟨ga, oa + i * 6 + 3, none⟩) (by simp; omega)).trans z3⟩
          have hS1 : ∀ wx u, Below wc.heap.size wc wx → ((wx.setCell ⟨gg, o + i * 6 + 3, none⟩ u).cell? ⟨w.heap.size, 1, none⟩ = some (.slice (some ⟨ga, oa, none⟩) n1 c) ∧ (wx.setCell ⟨gg, o + i * 6 + 3, none⟩ u).cell? ⟨w1.heap.size, 1, none⟩ = some (.slice (some ⟨gg, o, none⟩) n1 c1) ∧ (wx.setCell ⟨gg, o + i * 6 + 3, none⟩ u).cell? ⟨ga, oa + i * 6 + 3, none⟩ = some (.int .i64 D)) := fun wx u h => by
            rw [World.cell?_setCell_other _ _ _ _ (by intro e; injection e with e; omega), World.cell?_setCell_other _ _ _ _ (by intro e; injection e with e; omega), World.cell?_setCell_other _ _ _ _ (by intro e; injection e with e; omega)]
            exact hS0 wx h
          have KP := Lib.hid hS0
          have KS := Lib.hid hS1
          clear hS0 hS1 hat hC3 hO3 hokn hO2 hP hPl hM2l HU z0 z1 z2 z4 z5
          go_upto_region 9 with fail
          focus
              go_region_held3 (fun wx => wx.cell? ⟨w.heap.size, 1, none⟩ = some (.slice (some ⟨ga, oa, none⟩) n1 c) ∧ wx.cell? ⟨w1.heap.size, 1, none⟩ = some (.slice (some ⟨gg, o, none⟩) n1 c1) ∧ wx.cell? ⟨ga, oa + i * 6 + 3, none⟩ = some (.int .i64 D)) (first | assumption | exact KP.out _ (Below.refl _ _).drew | exact KP.out _ (by assumption) | exact KS.out _ _ (by assumption))
                ((go_at_call 101; refine (HAT.out _ (Below.refl _ _).drew).mono ?_; rintro e wy ⟨rfl, hby⟩; have hbz : Below wc.heap.size wc wy := below_chain (Below.refl wc.heap.size wc).drew hby (Nat.le_refl _); have u2 : wy.frozen? ⟨gg, o + i * 6 + 3, none⟩ = false := (Below.frozen hbz (p := ⟨gg, o + i * 6 + 3, none⟩) hgg2).trans hf3; have u1 : wy.cell? ⟨gg, o + i * 6 + 3, none⟩ = some (.int .i64 D) := (Below.cell hbz (p := ⟨gg, o + i * 6 + 3, none⟩) hgg2).trans hx3))
          all_goals
            have hbz' : Below wc.heap.size wc wy := by assumption
            have hCf := HC3.out _ hbz'
            have hOf := HO3.out _ hbz'
            have hszf : w1.heap.size < (wy.setCell ⟨gg, o + (i * 6 + 3), none⟩ (.int .i64 ((P : Int) + 1))).heap.size := by
              have h1 := hbz'.size
              have h2 : w1.heap.size < wy.heap.size := by omega
              simpa [World.setCell] using h2
            clear hC2 KP KS HAT v1
            go_wp2_with fail
            go_roundw
            case rel => exact ⟨i + 1, _, B2, m2', d2, M2, by omega, by go_num, rfl, hCf, hOf, hszf, HU1, HM2⟩
            case measure => simp [intOf]; omega
      · have q1 : ((la L i).kind != 2) = true := by simpa using hk1
        have hcf := isC_f hk1
        have HU1 := Lib.hid (HU.out.skip (rn_n (M := metL L) hcf))
        have HM1 := Lib.hid (show M = metT L (i + 1) by rw [met_no hcf]; exact HM.out)
        clear hk1 hcf HU HM
        go_wp2_with fail
        go_roundw
        case rel => exact ⟨i + 1, Lw, B, m, d, M, by omega, by go_num, rfl, hC, hO, hsz, HU1, HM1⟩
        case measure => simp [intOf]; omega
    · have hin : i = n1 := by omega
      have hU := HU.out
      rw [hin, ← hLn.out] at hU
      have hLf := hU.all
      have hown := hC.own
      rw [hLf] at hown
      have i1 : ¬ (i : Int) < (n1 : Int) := by omega
      have hR3 := hR0.below hC.old hX
      have o0 := hC.c0
      have r0 : wr.cell? ⟨w.heap.size + 1, 0, none⟩ = some (.int .i64 0) := (hR3.cell 0).trans rfl
      have r1 : wr.cell? ⟨w.heap.size + 1, 1, none⟩ = some (.slice none 0 0) := (hR3.cell 1).trans rfl
      have z0 := hR3.frozen 0
      have z1 := hR3.frozen 1
      have hG := copy_ends (w := w) (X := X) (K := K) hR3 hC.old hbx.below (by omega) hown
      clear hU hLf hin HU hR3 hown
      go_wp2_with fail
      (try simp only [Exit.inBlock, Exit.then])
      refine ret_cellB rfl rfl hG.1 Tryd.underlying24 rfl (by kernel_rfl) rfl ?_
      exact ⟨A1, n1, c1, rfl, hG.2.1, hG.2.2⟩
end
end Go.Proofs.YtkjcmppaapbabaaDoor
