/-
  Contract: the program's face. Conditions: the diagram of a valid code.
-/
import Derived.Test.YtkjcmppaapbabaaDoorM12
import Derived.Test.YtkjcmppaapbabaaDoorRev
import Derived.Deep.RegionHeld3
import Derived.WalkMore
namespace Go.Proofs.YtkjcmppaapbabaaDoor
open Go.RowKit
/-- A face in memory: its block, its own slices. -/
structure FaceM (w : World) (base fb : Nat) (f : Fc) (Ad Ap Af : Option Addr) (nd cd np cp nf cf : Nat) : Prop where
  bk : Blk w fb 38 #[.bool f.above, .slice Ad nd cd, .slice Ap np cp, .slice Af nf cf, .bool f.outer]
  darts : Own w base Ad nd cd f.darts
  places : OwnQ w base Ap np cp f.places
  fingers : Own w base Af nf cf f.fingers
  dp : Apart Ad Ap
  df : Apart Ad Af
  pf : Apart Ap Af
/-- 'append(places, more...)', as a step of a region. -/
theorem stepQ {w : World} {ops : Array Oper} {o : Oper} {a : Act} {K : Act → World → Prop} {Q' : Exit → Act → World → Prop} {E : Prop} (hgd : o.guard = none) (s x : Operand)
    (ho : o.op = .call { callee := .builtin .append, args := #[s, x], argTypes := #[36, 36] })
    {base base2 : Nat} {A : Option Addr} {n c : Nat} {Q : List Plc} {B : Option Addr} {m d : Nat} {M : List Plc} (hs : a.eval s = .slice A n c) (hx : a.eval x = .slice B m d)
    (hQ : OwnQ w base A n c Q) (hM : OwnQ w base2 B m d M) (N : Nat) (hN : n + m = N) (hn : N ≤ 1000000) (hbase : base ≤ w.heap.size)
    (h : ∀ A' c' w', OwnQ w' base A' N c' (Q ++ M) → w.grownBy w' (blk A) → (∀ k, blk A' = some k → blk A = some k ∨ w.heap.size ≤ k) → K (a.put o.dst (.slice A' N c')) w') :
    if Region.wanted o (yielded ops a.tmps) = true then Oper.wp Tryd.prog o a w K Q' else E := by
  obtain ⟨i0, hi, hz0, hz1, hz2⟩ := info_parts plInfo
  refine stepR hgd s x 36 ho 50 i0 _ 2 16 Tryd.underlying36 hi hz0 hz1 hz2 rfl (by decide) hQ.row hM.row.src
    (by
      intro u hu
      obtain ⟨q, _, hq⟩ := List.mem_flatMap.1 hu
      simp [plC] at hq
      rcases hq with rfl | rfl <;> rfl) hs hx N hN (by unfold maxLen; omega) (by omega) hbase ?_
  intro A' c' w' h1 h2 h3 _
  refine h A' c' w' ⟨by rw [List.flatMap_append]; exact h1, fun y hy => ?_⟩ h2 h3
  rcases List.mem_append.1 hy with hy | hy
  · exact hQ.fits y hy
  · exact hM.fits y hy
/-- Behind both appends. -/
structure Both (wz wy : World) (base : Nat) (f : Fc) (Qp : List Plc) (Fp : List Int) (Ad A2 A3 : Option Addr) (nd cd np c2 nf c3 : Nat) : Prop where
  places : OwnQ wy base A2 np c2 (f.places ++ Qp)
  fingers : Own wy base A3 nf c3 (f.fingers ++ Fp)
  darts : Own wy base Ad nd cd f.darts
  dp : Apart Ad A2
  df : Apart Ad A3
  pf : Apart A2 A3
  below : Below base wz wy
theorem ne_row {A B : Option Addr} (h : ∀ q, blk A = some q → blk B ≠ some q) : blk A = none ∨ blk A ≠ blk B := by
  cases hb : blk A with
  | none => exact .inl rfl
  | some q => exact .inr (fun e => h q hb e.symm)
theorem ne_some {A : Option Addr} {g : Nat} (h : ∀ q, blk A = some q → q ≠ g) : blk A = none ∨ blk A ≠ some g := by
  cases hb : blk A with
  | none => exact .inl rfl
  | some q => exact .inr (fun e => h q hb (by simpa using e))
theorem both_pf {wz w2 w3 : World} {base fb : Nat} {f : Fc} {Ad Ap Af A2 A3 : Option Addr} {nd cd np cp nf cf N2 N3 c2 c3 : Nat} {Qp : List Plc} {Fp : List Int} (hM : FaceM wz base fb f Ad Ap Af nd cd np cp nf cf) (hbase : base ≤ wz.heap.size)
    (hQ2 : OwnQ w2 base A2 N2 c2 (f.places ++ Qp)) (hg2 : wz.grownBy w2 (blk Ap)) (hl2 : ∀ k, blk A2 = some k → blk Ap = some k ∨ wz.heap.size ≤ k)
    (hF3 : Own w3 base A3 N3 c3 (f.fingers ++ Fp)) (hg3 : w2.grownBy w3 (blk Af)) (hl3 : ∀ k, blk A3 = some k → blk Af = some k ∨ w2.heap.size ≤ k) : Both wz w3 base f Qp Fp Ad A2 A3 nd cd N2 c2 N3 c3 := by
  have hfl : ∀ q, blk Af = some q → q < wz.heap.size := fun q hq => (hM.fingers.lt q hq).2
  have hdl : ∀ q, blk Ad = some q → q < wz.heap.size := fun q hq => (hM.darts.lt q hq).2
  have hz2 := hg2.size
  refine ⟨hQ2.kept hg3 (ne_row fun q hq e => ?_), hF3, (hM.darts.kept hg2 (ne_row hM.dp)).kept hg3 (ne_row hM.df), fun q hq e => ?_, fun q hq e => ?_, fun q hq e => ?_, ?_⟩
  · rcases hl2 q hq with h | h
    · exact hM.pf q h e
    · have := hfl q e; omega
  · rcases hl2 q e with h | h
    · exact hM.dp q hq h
    · have := hdl q hq; omega
  · rcases hl3 q e with h | h
    · exact hM.df q hq h
    · have := hdl q hq; omega
  · rcases hl3 q e with h | h
    · rcases hl2 q hq with h' | h'
      · exact hM.pf q h' h
      · have := hfl q h; omega
    · have := (hQ2.row.lt q hq).2; omega
  · exact ((Below.refl _ _).grown hg2 hbase (fun k hk => (hM.places.row.lt k hk).1)).trans ((Below.refl _ _).grown hg3 (by omega) (fun k hk => (hM.fingers.lt k hk).1))
theorem both_fp {wz w2 w3 : World} {base fb : Nat} {f : Fc} {Ad Ap Af A2 A3 : Option Addr} {nd cd np cp nf cf N2 N3 c2 c3 : Nat} {Qp : List Plc} {Fp : List Int} (hM : FaceM wz base fb f Ad Ap Af nd cd np cp nf cf) (hbase : base ≤ wz.heap.size)
    (hF3 : Own w3 base A3 N3 c3 (f.fingers ++ Fp)) (hg3 : wz.grownBy w3 (blk Af)) (hl3 : ∀ k, blk A3 = some k → blk Af = some k ∨ wz.heap.size ≤ k)
    (hQ2 : OwnQ w2 base A2 N2 c2 (f.places ++ Qp)) (hg2 : w3.grownBy w2 (blk Ap)) (hl2 : ∀ k, blk A2 = some k → blk Ap = some k ∨ w3.heap.size ≤ k) : Both wz w2 base f Qp Fp Ad A2 A3 nd cd N2 c2 N3 c3 := by
  have hpl : ∀ q, blk Ap = some q → q < wz.heap.size := fun q hq => (hM.places.row.lt q hq).2
  have hdl : ∀ q, blk Ad = some q → q < wz.heap.size := fun q hq => (hM.darts.lt q hq).2
  have hz3 := hg3.size
  refine ⟨hQ2, hF3.kept hg2 (ne_row fun q hq e => ?_), (hM.darts.kept hg3 (ne_row hM.df)).kept hg2 (ne_row hM.dp), fun q hq e => ?_, fun q hq e => ?_, fun q hq e => ?_, ?_⟩
  · rcases hl3 q hq with h | h
    · exact hM.pf q e h
    · have := hpl q e; omega
  · rcases hl2 q e with h | h
    · exact hM.dp q hq h
    · have := hdl q hq; omega
  · rcases hl3 q e with h | h
    · exact hM.df q hq h
    · have := hdl q hq; omega
  · rcases hl2 q hq with h | h
    · rcases hl3 q e with h' | h'
      · exact hM.pf q h h'
      · have := hpl q h; omega
    · have := (hF3.lt q e).2; omega
  · exact ((Below.refl _ _).grown hg3 hbase (fun k hk => (hM.fingers.lt k hk).1)).trans ((Below.refl _ _).grown hg2 (by omega) (fun k hk => (hM.places.row.lt k hk).1))
theorem build_face1 (b : Bool) (w : World) : (Instr.build 38 #[(0, .bool b)]).run Tryd.prog w = .ok (.agg #[.bool b, .slice none 0 0, .slice none 0 0, .slice none 0 0, .bool false]) w := run_build w _ _ _ (by kernel_rfl)
def stepsN (u x b : Nat) : Nat := 2 * u + (if x < b then 1 else 2)
def msF (w : World) (g b : Nat) (v : Value) : Nat := stepsN (unW w g) (intOf v).toNat b
theorem stepsN_lt {u x b : Nat} (h : x < b) : stepsN u x b = 2 * u + 1 := by unfold stepsN; rw [if_pos h]
theorem stepsN_ge {u x b : Nat} (h : ¬x < b) : stepsN u x b = 2 * u + 2 := by unfold stepsN; rw [if_neg h]
theorem stepsN_le {u x b : Nat} : stepsN u x b ≤ 2 * u + 2 := by unfold stepsN; split <;> omega
theorem f1_stop {f : Nat → Nat} {b k : Nat} {s : List Bool} {x : Nat} (hx : x < b) (h : sat s x = true) : face1 f b (k + 1) s x = ([], s) := by
  unfold face1; rw [if_pos hx, if_pos h]
theorem f1_step {f : Nat → Nat} {b k : Nat} {s : List Bool} {x : Nat} (hx : x < b) (h : sat s x = false) : face1 f b (k + 1) s x = (x :: (face1 f b k (s.set x true) (f x)).1, (face1 f b k (s.set x true) (f x)).2) := by
  conv => lhs; unfold face1
  rw [if_pos hx, if_neg (by rw [h]; simp)]
theorem f1_axis {f : Nat → Nat} {b k : Nat} {s : List Bool} {x : Nat} (hx : ¬x < b) : face1 f b (k + 1) s x = (x :: (face1 f b k s (f x)).1, (face1 f b k s (f x)).2) := by
  conv => lhs; unfold face1
  rw [if_neg hx]
theorem fcAdd_dart {K : Int} {L : List Lt} {X : List Nat} {f : Fc} {x n : Nat} (hL : L.length = n) (hx : x < 2 * n) : fcAdd K L X f x = { f with darts := f.darts ++ [(x : Int)] } := by
  unfold fcAdd; rw [hL, if_pos hx]
/-- The walk of one face, from what has been seen. -/
def face1L (L : List Lt) (n : Nat) (s : List Bool) (d : Nat) : List Nat × List Bool := face1 (leftF L (axL L)) (2 * n) (2 * (2 * n) + 2) s d
def FacePost (w : World) (bS gS n : Nat) (f : Fc) (sn : List Bool) (e : Ending) (w' : World) : Prop :=
  ∃ (Ad Ap Af : Option Addr) (nd cd np cp nf cf : Nat), e = .returned (.agg #[.bool f.above, .slice Ad nd cd, .slice Ap np cp, .slice Af nf cf, .bool f.outer]) ∧ OwnB w' bS gS (2 * n) sn ∧ Own w' w.heap.size Ad nd cd f.darts ∧ OwnQ w' w.heap.size Ap np cp f.places ∧ Own w' w.heap.size Af nf cf f.fingers ∧ w.grownBy w' (some gS)
theorem FaceM.next {w w' : World} {base fb : Nat} {f : Fc} {Ad Ap Af : Option Addr} {nd cd np cp nf cf : Nat} (h : FaceM w base fb f Ad Ap Af nd cd np cp nf cf) (hb : Below w.heap.size w w') : FaceM w' base fb f Ad Ap Af nd cd np cp nf cf :=
  ⟨h.bk.below hb h.bk.lt, h.darts.below hb, h.places.next hb, h.fingers.below hb, h.dp, h.df, h.pf⟩
theorem FaceM.kept {w w' : World} {base fb g : Nat} {f : Fc} {Ad Ap Af : Option Addr} {nd cd np cp nf cf : Nat} (h : FaceM w base fb f Ad Ap Af nd cd np cp nf cf) (hg : w.grownBy w' (some g)) (h1 : g < fb) (h2 : fb < base) : FaceM w' base fb f Ad Ap Af nd cd np cp nf cf :=
  ⟨h.bk.grown hg (by simp; omega), h.darts.kept hg (by
    cases hb : blk Ad with
    | none => exact .inl rfl
    | some q => exact .inr (by have := (h.darts.lt q hb).1; simp; omega)), h.places.kept hg (by
    cases hb : blk Ap with
    | none => exact .inl rfl
    | some q => exact .inr (by have := (h.places.row.lt q hb).1; simp; omega)), h.fingers.kept hg (by
    cases hb : blk Af with
    | none => exact .inl rfl
    | some q => exact .inr (by have := (h.fingers.lt q hb).1; simp; omega)), h.dp, h.df, h.pf⟩
set_option maxRecDepth 100000 in
set_option maxHeartbeats 6400000 in
theorem dia_face (d0 base p k : Nat) (A : Option Addr) (n c : Nat) (L : List Lt) (b g2 g3 g4 g6 : Nat) (s : List Bool) (P C ids : List Int) (w0 w : World) (h00 : DiaF w0 base p k A n c L b g2 g3 g4 g6 s P C ids) (hb00 : Below w0.heap.size w0 w) (hk40 : k ≤ 40)
    (gS gB bS bB : Nat) (sn bl : List Bool) (hS : OwnB w bS gS (2 * n) sn) (hB : OwnB w bB gB n bl) (hbl : ∀ j, j < n → sat bl j = !dwn L (j + 1)) (hgS0 : w0.heap.size ≤ gS) (hd0 : d0 < 2 * n) (hun : sat sn d0 = false) :
    Calls Tryd.prog 82 #[.pointer (some ⟨p, 0, none⟩), .int .i64 d0, .slice (some ⟨gS, 0, none⟩) (2 * n) (2 * n), .slice (some ⟨gB, 0, none⟩) n n] w (FacePost w bS gS n (faceOf (k : Int) L (axL L) (face1L L n sn d0).1) (face1L L n sn d0).2) := by
  have h := h00.next hb00
  have hDR : Hid (∀ wr, w.grownBy wr (some gS) → DiaF wr base p k A n c L b g2 g3 g4 g6 s P C ids) := Lib.hid fun wr hg => h00.next (hb00.trans (below_of_only hg hgS0 hb00.size))
  have hn := h.small
  have hD := h.ranks.dia
  have hLn := Lib.hid h.lets.len
  have c1 := hD.c1
  have c3 := hD.c3
  have hbf := build_face1
  obtain ⟨m, hm⟩ : ∃ m, m = (axL L).length := ⟨_, rfl⟩
  have hmn : m ≤ n := by rw [hm, axL_len, hLn.out]; exact pN_le L n
  rw [← hm] at c3
  obtain ⟨e0, he0⟩ : ∃ e0, e0 = d0 / 2 := ⟨_, rfl⟩
  have hen : e0 < n := by omega
  have hcb := hB.cell hen
  rw [hbl e0 hen] at hcb
  have q1 : (d0 : Int) / 2 = (e0 : Int) := by omega
  have q2 : (0 : Int) ≤ (e0 : Int) := by omega
  have q3 : (e0 : Int) < (n : Int) := by omega
  have q4 : (0 : Int) ≤ (d0 : Int) := by omega
  have HE0 := Lib.hid he0
  clear he0
  have HM := Lib.hid hm
  clear hm
  go_enter Tryd.func82, Tryd.ntmps82
  go_wp2_with fail
  obtain ⟨X, hX⟩ : ∃ X, X = w.alloc (.cells #[.bool false, .slice none 0 0, .slice none 0 0, .slice none 0 0, .bool false] 38) := ⟨_, rfl⟩
  rw [← hX]
  have hb0 : Below w.heap.size w X := by rw [hX]; exact (Below.refl _ _).alloc (Nat.le_refl _) _
  have hR0 : Blk X w.heap.size 38 #[.bool false, .slice none 0 0, .slice none 0 0, .slice none 0 0, .bool false] := by rw [hX]; exact Blk.new w _ _
  have e1 := (hb0.cell hD.lt).trans c1
  have e3 := (hb0.cell hD.lt).trans c3
  clear hX c1 c3
  go_step3
  go_wp2_with fail
  go_quiet (fail)
  generalize hY : X.drewN nq = Y
  have hbY : Below w.heap.size w Y := by rw [← hY]; exact below_drewN hb0 _
  have hRY : Blk Y w.heap.size 38 #[.bool false, .slice none 0 0, .slice none 0 0, .slice none 0 0, .bool false] := by rw [← hY]; exact hR0.drewN _
  have ecb := (hbY.cell (World.block_lt_of_cell? w _ hcb)).trans hcb
  clear hY hb0 hR0 e1 e3 hcb
  go_wp2_with fail
  go_step3
  go_wp2_with fail
  have hM0 : FaceM (Y.alloc (.cells #[.bool (dwn L (e0 + 1)), .slice none 0 0, .slice none 0 0, .slice none 0 0, .bool false] 38)) (Y.heap.size + 1) Y.heap.size (fc0 L d0) none none none 0 0 0 0 0 0 :=
    ⟨by unfold fc0; rw [← HE0.out]; exact Blk.new Y _ _, Own.nil _ _, OwnQ.nil _ _, Own.nil _ _, fun k hk => (by cases hk), fun k hk => (by cases hk), fun k hk => (by cases hk)⟩
  have hS0 := hS.below (hbY.alloc hbY.size (.cells #[.bool (dwn L (e0 + 1)), .slice none 0 0, .slice none 0 0, .slice none 0 0, .bool false] 38)) hS.lt
  have hR0 := hRY.alloc (.cells #[.bool (dwn L (e0 + 1)), .slice none 0 0, .slice none 0 0, .slice none 0 0, .bool false] 38)
  have hg0 : w.grownBy (Y.alloc (.cells #[.bool (dwn L (e0 + 1)), .slice none 0 0, .slice none 0 0, .slice none 0 0, .bool false] 38)) (some gS) := only_of (hbY.alloc hbY.size _) _
  obtain ⟨fin, hfin⟩ : ∃ fin, fin = faceOf (k : Int) L (axL L) (face1L L n sn d0).1 := ⟨_, rfl⟩
  obtain ⟨sfin, hsfin⟩ : ∃ sfin, sfin = (face1L L n sn d0).2 := ⟨_, rfl⟩
  have hst : Hid ((face1 (leftF L (axL L)) (2 * n) (2 * (2 * n) + 2) sn d0).1.foldl (fcAdd (k : Int) L (axL L)) (fc0 L d0) = fin ∧ (face1 (leftF L (axL L)) (2 * n) (2 * (2 * n) + 2) sn d0).2 = sfin) := by
    refine Lib.hid ⟨?_, hsfin.symm⟩
    rw [hfin]
    unfold faceOf face1L
    have : xat (face1 (leftF L (axL L)) (2 * n) (2 * (2 * n) + 2) sn d0).1 0 = d0 := by rw [f1_step hd0 hun]; rfl
    rw [this]
  have HFIN := Lib.hid hfin
  have HSFIN := Lib.hid hsfin
  have hu0 : unN sn ≤ 2 * n := by rw [← hS.len]; exact unN_le sn
  have hgSw := hS.lt
  have hDn : dartsN L = 2 * n + 2 * m := by unfold dartsN; rw [hLn.out, HM.out]
  have HDN := Lib.hid hDn
  have hYw := hbY.size
  rw [← hfin, ← hsfin]
  have hYw1 := hRY.lt
  have HG := Lib.hid h.good
  clear hfin hsfin hDn hRY ecb
  go_loopw [12, 13, 14, 15] (fun v12 _ _ _ wr => ∃ (x k' : Nat) (si : List Bool) (f : Fc) (Ad Ap Af : Option Addr) (nd cd np cp nf cf : Nat), x < 2 * n + 2 * m ∧ v12 = .int .i64 x ∧ OwnB wr bS gS (2 * n) si ∧ FaceM wr (Y.heap.size + 1) Y.heap.size f Ad Ap Af nd cd np cp nf cf ∧ w.grownBy wr (some gS) ∧
      Blk wr w.heap.size 38 #[.bool false, .slice none 0 0, .slice none 0 0, .slice none 0 0, .bool false] ∧ nd + unN si ≤ 2 * n ∧ np + 100 * stepsN (unN si) x (2 * n) ≤ 100 * (4 * n + 2) ∧ nf + 100 * stepsN (unN si) x (2 * n) ≤ 100 * (4 * n + 2) ∧ stepsN (unN si) x (2 * n) ≤ k' ∧
      Hid ((face1 (leftF L (axL L)) (2 * n) k' si x).1.foldl (fcAdd (k : Int) L (axL L)) f = fin ∧ (face1 (leftF L (axL L)) (2 * n) k' si x).2 = sfin)) (fun v12 _ _ _ wr => msF wr gS (2 * n) v12)
  case atStart => exact ⟨d0, 2 * (2 * n) + 2, sn, _, none, none, none, 0, 0, 0, 0, 0, 0, by omega, rfl, hS0, hM0, hg0, hR0, by omega, by rw [stepsN_lt hd0]; omega, by rw [stepsN_lt hd0]; omega, by rw [stepsN_lt hd0]; omega, hst⟩
  case round =>
    obtain ⟨x, k', si, f, Ad, Ap, Af, nd, cd, np, cp, nf, cf, hx, rfl, hsi, hMf, hg, hR, hnd, hnp, hnf, hk', HE⟩ := hrel
    clear hM0 hS0 hR0 hg0 hst
    have j0 : (0 : Int) ≤ (x : Int) := by omega
    by_cases hlt : x < 2 * n
    · rw [stepsN_lt hlt] at hnp hnf hk'
      obtain ⟨k', rfl⟩ : ∃ k'', k' = k'' + 1 := ⟨k' - 1, by omega⟩
      have j1 : (x : Int) < 2 * (n : Int) := by omega
      have hcx := hsi.cell hlt
      cases hsx : sat si x with
      | true =>
        rw [hsx] at hcx
        have hE := HE.out
        rw [f1_stop hlt hsx] at hE
        have HE1 := Lib.hid hE
        have a0 : wr.cell? ⟨Y.heap.size, 0, none⟩ = some (.bool f.above) := (hMf.bk.cell 0).trans rfl
        have a1 : wr.cell? ⟨Y.heap.size, 1, none⟩ = some (.slice Ad nd cd) := (hMf.bk.cell 1).trans rfl
        have a2 : wr.cell? ⟨Y.heap.size, 2, none⟩ = some (.slice Ap np cp) := (hMf.bk.cell 2).trans rfl
        have a3 : wr.cell? ⟨Y.heap.size, 3, none⟩ = some (.slice Af nf cf) := (hMf.bk.cell 3).trans rfl
        have a4 : wr.cell? ⟨Y.heap.size, 4, none⟩ = some (.bool f.outer) := (hMf.bk.cell 4).trans rfl
        have b0 : wr.cell? ⟨w.heap.size, 0, none⟩ = some (.bool false) := (hR.cell 0).trans rfl
        have b1 : wr.cell? ⟨w.heap.size, 1, none⟩ = some (.slice none 0 0) := (hR.cell 1).trans rfl
        have b2 : wr.cell? ⟨w.heap.size, 2, none⟩ = some (.slice none 0 0) := (hR.cell 2).trans rfl
        have b3 : wr.cell? ⟨w.heap.size, 3, none⟩ = some (.slice none 0 0) := (hR.cell 3).trans rfl
        have b4 : wr.cell? ⟨w.heap.size, 4, none⟩ = some (.bool false) := (hR.cell 4).trans rfl
        have z0 := hR.frozen 0
        have z1 := hR.frozen 1
        have z2 := hR.frozen 2
        have z3 := hR.frozen 3
        have z4 := hR.frozen 4
        clear hsx HE hE
        have hRf : Blk (((((wr.setCell ⟨w.heap.size, 0, none⟩ (.bool f.above)).setCell ⟨w.heap.size, 1, none⟩ (.slice Ad nd cd)).setCell ⟨w.heap.size, 2, none⟩ (.slice Ap np cp)).setCell ⟨w.heap.size, 3, none⟩ (.slice Af nf cf)).setCell ⟨w.heap.size, 4, none⟩ (.bool f.outer)) w.heap.size 38 #[.bool f.above, .slice Ad nd cd, .slice Ap np cp, .slice Af nf cf, .bool f.outer] := ((((hR.set_ 0 _).set_ 1 _).set_ 2 _).set_ 3 _).set_ 4 _
        have g5 := only_setCell (only_setCell (only_setCell (only_setCell (only_setCell (World.grownBy.refl wr (some w.heap.size)) (p := ⟨w.heap.size, 0, none⟩) (.inl rfl) (.bool f.above)) (p := ⟨w.heap.size, 1, none⟩) (.inl rfl) (.slice Ad nd cd)) (p := ⟨w.heap.size, 2, none⟩) (.inl rfl) (.slice Ap np cp)) (p := ⟨w.heap.size, 3, none⟩) (.inl rfl) (.slice Af nf cf)) (p := ⟨w.heap.size, 4, none⟩) (.inl rfl) (.bool f.outer)
        have w5 := only_setCell (only_setCell (only_setCell (only_setCell (only_setCell hg (p := ⟨w.heap.size, 0, none⟩) (.inr (Nat.le_refl _)) (.bool f.above)) (p := ⟨w.heap.size, 1, none⟩) (.inr (Nat.le_refl _)) (.slice Ad nd cd)) (p := ⟨w.heap.size, 2, none⟩) (.inr (Nat.le_refl _)) (.slice Ap np cp)) (p := ⟨w.heap.size, 3, none⟩) (.inr (Nat.le_refl _)) (.slice Af nf cf)) (p := ⟨w.heap.size, 4, none⟩) (.inr (Nat.le_refl _)) (.bool f.outer)
        have hM5 := hMf.kept g5 (by omega) (by omega)
        have hs5 := hsi.kept g5 (by simp; omega)
        clear hMf hsi hg hR g5
        go_wp2_with fail
        (try simp only [Exit.inBlock, Exit.then])
        refine ret_cellB rfl rfl hRf Tryd.underlying38 rfl (by kernel_rfl) rfl ?_
        have hff : f = fin := HE1.out.1
        have hss : si = sfin := HE1.out.2
        rw [← HFIN.out, ← HSFIN.out, ← hff, ← hss]
        exact ⟨Ad, Ap, Af, nd, cd, np, cp, nf, cf, rfl, hs5, Own.mono hM5.darts (by omega), hM5.places.mono (by omega), Own.mono hM5.fingers (by omega), w5⟩
      | false =>
        rw [hsx] at hcx
        have hus := unN_set hsx
        have hE := HE.out
        rw [f1_step hlt hsx] at hE
        have HE1 := Lib.hid (show (face1 (leftF L (axL L)) (2 * n) k' (si.set x true) (leftF L (axL L) x)).1.foldl (fcAdd (k : Int) L (axL L)) { f with darts := f.darts ++ [(x : Int)] } = fin ∧ (face1 (leftF L (axL L)) (2 * n) k' (si.set x true) (leftF L (axL L) x)).2 = sfin by
          rw [← fcAdd_dart (K := (k : Int)) (X := axL L) hLn.out hlt]
          exact hE)
        have hfx := hsi.frozen x
        have g1 := only_setCell (World.grownBy.refl wr (some gS)) (p := ⟨gS, x, none⟩) (.inl rfl) (.bool true)
        have hMS := hMf.kept g1 (by omega) (by omega)
        have hsS := hsi.stored x true
        have hgS := only_setCell hg (p := ⟨gS, x, none⟩) (.inl rfl) (.bool true)
        have hRS := hR.far (p := ⟨gS, x, none⟩) (by simp; omega) (.bool true)
        have a1 : (wr.setCell ⟨gS, x, none⟩ (.bool true)).cell? ⟨Y.heap.size, 1, none⟩ = some (.slice Ad nd cd) := (hMS.bk.cell 1).trans rfl
        have HszS : Hid ((wr.setCell ⟨gS, x, none⟩ (.bool true)).heap.size = wr.heap.size) := Lib.hid (by simp)
        have HX64 : Hid (I64 (x : Int)) := Lib.hid ⟨by omega, by omega⟩
        have hl := hMf.bk.lt
        have hx' : leftF L (axL L) x < 2 * n + 2 * m := by rw [← HDN.out]; exact HG.out.into (by rw [HDN.out]; exact hx)
        have hu1 := hsi.unW
        clear hsx HE hE g1 hMf hg hR
        go_wp2_with (at_builtin; refine app1m rfl _ _ rfl hMS.darts (x : Int) rfl wr.heap.size HszS.out rfl HX64.out (by omega) (by rw [HszS.out]; omega) ?_; intro A4 c4 w4 hown4 hb4 hg4 hl4; have hg4' := only_trans (World.grownBy_alloc _ _ _) hg4; have hbk4 := hMS.bk.grown hg4' (fun e => absurd (hMS.darts.lt _ e.symm).1 (by omega)); have y1 : w4.cell? ⟨Y.heap.size, 1, none⟩ = some (.slice Ad nd cd) := (hbk4.cell 1).trans rfl; have yf := hbk4.frozen 1)
        have nS : ∀ q, blk Ad = some q → q ≠ gS ∧ q ≠ w.heap.size ∧ q ≠ Y.heap.size := fun q hq => by
          have := (hMS.darts.lt q hq).1
          exact ⟨by omega, by omega, by omega⟩
        have hs4 := hsS.kept hg4' (fun e => (nS _ e.symm).1 rfl)
        have hR4 := hRS.grown hg4' (fun e => (nS _ e.symm).2.1 rfl)
        have hp4 := hMS.places.kept hg4' (by
          cases hb : blk Ap with
          | none => exact .inl rfl
          | some q => exact .inr (fun e => hMS.dp q e.symm hb))
        have hf4 := hMS.fingers.kept hg4' (by
          cases hb : blk Af with
          | none => exact .inl rfl
          | some q => exact .inr (fun e => hMS.df q e.symm hb))
        have g2' := only_setCell (World.grownBy.refl w4 (some Y.heap.size)) (p := ⟨Y.heap.size, 1, none⟩) (.inl rfl) (.slice A4 (nd + 1) c4)
        have hA4 : ∀ q, blk A4 = some q → blk Ad = some q ∨ q = wr.heap.size + 1 := fun q hq => by
          rcases hl4 with e | e
          · exact .inl (by rw [← e]; exact hq)
          · rw [hq, HszS.out] at e
            exact .inr (by simpa using e)
        have hMf2 : FaceM (w4.setCell ⟨Y.heap.size, 1, none⟩ (.slice A4 (nd + 1) c4)) (Y.heap.size + 1) Y.heap.size { f with darts := f.darts ++ [(x : Int)] } A4 Ap Af (nd + 1) c4 np cp nf cf :=
          ⟨hbk4.set_ 1 _, hown4.kept g2' (by
            cases hb : blk A4 with
            | none => exact .inl rfl
            | some q => exact .inr (by have := (hown4.lt q hb).1; simp; omega)), hp4.kept g2' (by
            cases hb : blk Ap with
            | none => exact .inl rfl
            | some q => exact .inr (by have := (hp4.row.lt q hb).1; simp; omega)), hf4.kept g2' (by
            cases hb : blk Af with
            | none => exact .inl rfl
            | some q => exact .inr (by have := (hf4.lt q hb).1; simp; omega)), fun q hq e => by
            rcases hA4 q hq with h1 | h1
            · exact hMS.dp q h1 e
            · have := (hMS.places.row.lt q e).2
              rw [HszS.out] at this
              omega, fun q hq e => by
            rcases hA4 q hq with h1 | h1
            · exact hMS.df q h1 e
            · have := (hMS.fingers.lt q e).2
              rw [HszS.out] at this
              omega, hMS.pf⟩
        have hg2 := only_setCell (only_below hgS hb4 (by omega)) (p := ⟨Y.heap.size, 1, none⟩) (.inr (by simp; omega)) (.slice A4 (nd + 1) c4)
        have hs2 := hs4.kept g2' (by simp; omega)
        have hR2 := hR4.grown g2' (by simp; omega)
        clear nS hs4 hR4 hp4 hf4 g2' hA4 hbk4 hg4 hg4' hl4 hown4 hb4 hMS hsS hgS hRS a1 y1 yf hcx hfx
        refine (dia_left x base p k A n c L b g2 g3 g4 g6 s P C ids _ (hDR.out _ hg2) (by rw [HDN.out]; exact hx)).mono ?_
        rintro e w5 ⟨rfl, hb5⟩
        have hM5 := hMf2.next hb5
        have hs5 := hs2.below hb5 hs2.lt
        have hR5 := hR2.below hb5 hR2.lt
        have hg5 := only_below hg2 hb5 hg2.size
        have hu5 := hs5.unW
        have hst := stepsN_le (u := unN (si.set x true)) (x := leftF L (axL L) x) (b := 2 * n)
        have hst1 := stepsN_lt (u := unN si) hlt
        clear hMf2 hs2 hR2 hg2 hb5
        generalize leftF L (axL L) x = x' at hx' HE1 hst ⊢
        have HST := Lib.hid hst1
        clear hst1
        go_wp2_with fail
        go_roundw
        case rel => exact ⟨x', k', si.set x true, _, A4, Ap, Af, nd + 1, c4, np, cp, nf, cf, hx', rfl, hs5, hM5, hg5, hR5, by omega, by omega, by omega, by omega, HE1⟩
        case measure =>
          have := HST.out
          unfold msF
          rw [hu5, hu1]
          simp [intOf]
          omega
    · rw [stepsN_ge hlt] at hnp hnf hk'
      obtain ⟨k', rfl⟩ : ∃ k'', k' = k'' + 1 := ⟨k' - 1, by omega⟩
      obtain ⟨j, hj⟩ : ∃ j, j = (x - 2 * n) / 2 := ⟨_, rfl⟩
      have hjm : j < m := by omega
      obtain ⟨Qp, hQp⟩ : ∃ Qp, Qp = (if x % 2 = 1 then (pieceP (k : Int) L (axL L) j).reverse else pieceP (k : Int) L (axL L) j) := ⟨_, rfl⟩
      obtain ⟨Fp, hFp⟩ : ∃ Fp, Fp = (if x % 2 = 1 then (pieceF (k : Int) L (axL L) j).reverse else pieceF (k : Int) L (axL L) j) := ⟨_, rfl⟩
      obtain ⟨ou, hou⟩ : ∃ ou, ou = (f.outer || j == m - 1) := ⟨_, rfl⟩
      have hE := HE.out
      rw [f1_axis hlt] at hE
      have HE1 := Lib.hid (show (face1 (leftF L (axL L)) (2 * n) k' si (leftF L (axL L) x)).1.foldl (fcAdd (k : Int) L (axL L)) { f with places := f.places ++ Qp, fingers := f.fingers ++ Fp, outer := ou } = fin ∧ (face1 (leftF L (axL L)) (2 * n) k' si (leftF L (axL L) x)).2 = sfin by
        rw [← show fcAdd (k : Int) L (axL L) f x = { f with places := f.places ++ Qp, fingers := f.fingers ++ Fp, outer := ou } by
          unfold fcAdd; rw [hLn.out, if_neg hlt, ← hj, ← hQp, ← hFp, hou, HM.out]]
        exact hE)
      have hlen := pieceP_len (K := (k : Int)) (L := L) (by omega) HG.out (j := j) (by rw [← HM.out]; exact hjm)
      have hQl : Qp.length ≤ 100 := by
        rw [hQp]
        split
        · rw [List.length_reverse]; exact hlen.1
        · exact hlen.1
      have hFl : Fp.length ≤ 100 := by
        rw [hFp]
        split
        · rw [List.length_reverse]; exact hlen.2
        · exact hlen.2
      have q5 : ((x : Int) - 2 * (n : Int)) / 2 = (j : Int) := by omega
      have q6 : ¬ (x : Int) < 2 * (n : Int) := by omega
      have hx' : leftF L (axL L) x < 2 * n + 2 * m := by rw [← HDN.out]; exact HG.out.into (by rw [HDN.out]; exact hx)
      have hxlt : leftF L (axL L) x < 2 * n := by have := HG.out.axis (d := x) (by rw [hLn.out]; omega) (by rw [HDN.out]; exact hx); rwa [hLn.out] at this
      have hu1 := hsi.unW
      have HJ := Lib.hid hj
      have HQP := Lib.hid hQp
      have HFP := Lib.hid hFp
      have HOU := Lib.hid hou
      have HLEN := Lib.hid hlen
      clear hj hQp hFp hou HE hE hlen
      go_wp2_with fail
      refine (dia_rim j base p k A n c L b g2 g3 g4 g6 s P C ids _ (hDR.out _ hg) hk40 (by rw [← HM.out]; exact hjm)).mono ?_
      rintro e w1 ⟨A1, n1, c1, B1, m1, d1, rfl, hQ1, hF1, hap1, hb1⟩
      have hsz1 := hb1.size
      have hfbr := hMf.bk.lt
      have hApl : ∀ q, blk Ap = some q → q < wr.heap.size := fun q hq => (hMf.places.row.lt q hq).2
      have hAfl : ∀ q, blk Af = some q → q < wr.heap.size := fun q hq => (hMf.fingers.lt q hq).2
      have HAPL := Lib.hid hApl
      have HAFL := Lib.hid hAfl
      clear hApl hAfl
      have hn1 : n1 ≤ 100 := by have := hQ1.len; have := HLEN.out.1; omega
      have hm1 : m1 ≤ 100 := by have := hF1.len; have := HLEN.out.2; omega
      go_upto_if 68 with fail
      go_cut [14, 15] (fun v14 v15 wv => ∃ wz : World, wz = wv ∧ v14 = .slice A1 n1 c1 ∧ v15 = .slice B1 m1 d1 ∧ OwnQ wz wr.heap.size A1 n1 c1 Qp ∧ Own wz wr.heap.size B1 m1 d1 Fp ∧ Below wr.heap.size wr wz)
      case first =>
        by_cases hodd : x % 2 = 1
        · have q7 : ((x : Int) % 2 == 1) = true := by simp; omega
          have hQe := HQP.out
          have hFe := HFP.out
          rw [if_pos hodd] at hQe hFe
          have HQE := Lib.hid hQe
          have HFE := Lib.hid hFe
          clear hQe hFe hodd
          go_wp2_with fail
          refine (slices_reverseQ wr.heap.size A1 n1 c1 _ _ hQ1 (by omega)).mono ?_
          rintro e w2 ⟨rfl, hQ2, hg2⟩
          have hF2 := hF1.kept hg2 (by
            cases hb : blk B1 with
            | none => exact .inl rfl
            | some q => exact .inr (fun e => hap1 q e.symm hb))
          have hb2 := hb1.trans ((Below.refl _ _).grown hg2 hsz1 (fun k hk => (hQ1.row.lt k hk).1))
          clear hQ1 hF1 hg2 hb1
          go_wp2_with fail
          refine (slices_reverse wr.heap.size B1 m1 d1 _ _ hF2).mono ?_
          rintro e w3 ⟨rfl, hF3, hg3⟩
          have hQ3 := hQ2.kept hg3 (by
            cases hb : blk A1 with
            | none => exact .inl rfl
            | some q => exact .inr (fun e => hap1 q hb e.symm))
          have hb3 := hb2.trans ((Below.refl _ _).grown hg3 hb2.size (fun k hk => (hF2.lt k hk).1))
          rw [← HQE.out] at hQ3
          rw [← HFE.out] at hF3
          clear hQ2 hF2 hg3 hb2
          go_wp2_with fail
          go_meet
          case rel => exact ⟨_, rfl, rfl, rfl, hQ3, hF3, hb3⟩
        · have q7 : ((x : Int) % 2 == 1) = false := by simp; omega
          have hQe := HQP.out
          have hFe := HFP.out
          rw [if_neg hodd] at hQe hFe
          rw [← hQe] at hQ1
          rw [← hFe] at hF1
          clear hQe hFe hodd
          go_wp2_with fail
          go_meet
          case rel => exact ⟨_, rfl, rfl, rfl, hQ1, hF1, hb1⟩
      case rest =>
        obtain ⟨wz, rfl, rfl, rfl, hQz, hFz, hbz⟩ := hcut
        have hMz := hMf.next hbz
        have hsz := hsi.below hbz hsi.lt
        have hRz := hR.below hbz hR.lt
        have hgz := only_below hg hbz hg.size
        have hszz := hbz.size
        clear hMf hsi hR hg hbz hQ1 hF1 hb1
        have hbase : Y.heap.size + 1 ≤ wz.heap.size := by omega
        have u2 : wz.cell? ⟨Y.heap.size, 2, none⟩ = some (.slice Ap np cp) := (hMz.bk.cell 2).trans rfl
        have u3 : wz.cell? ⟨Y.heap.size, 3, none⟩ = some (.slice Af nf cf) := (hMz.bk.cell 3).trans rfl
        have u4 := hMz.bk.frozen 2
        have u5 := hMz.bk.frozen 3
        go_upto_region 14 with fail
        go_cut [14] (fun _ wv => ∃ (wy : World) (A2 A3 : Option Addr) (c2 c3 : Nat), wy = wv ∧ FaceM wy (Y.heap.size + 1) Y.heap.size { f with places := f.places ++ Qp, fingers := f.fingers ++ Fp } Ad A2 A3 nd cd (np + n1) c2 (nf + m1) c3 ∧ Below Y.heap.size wz wy)
        case first =>
          go_region_law (first
            | ((refine stepQ (base := Y.heap.size + 1) (base2 := wr.heap.size) (A := Ap) (n := np) (c := cp) (Q := f.places) (B := A1) (m := n1) (d := c1) (M := Qp) rfl (.tmp 74) (.tmp 75) (by rfl) (by rfl) (by rfl) (hMz.places.next (Below.refl _ _).drew) (hQz.next (Below.refl _ _).drew) (np + n1) rfl (by omega) hbase ?_)
               intro A2 c2 w2 hQ2 hg2 hl2
               have kg2 : wz.grownBy w2 (blk Ap) := ⟨hg2.os, hg2.tape, hg2.output, hg2.size, hg2.block⟩
               have kb2 : Below (Y.heap.size + 1) wz w2 := (Below.refl _ _).grown kg2 hbase (fun k hk => (hMz.places.row.lt k hk).1)
               have v2 := (hMz.bk.below kb2 (Nat.lt_succ_self _)).cell 2
               have v3 : w2.cell? ⟨Y.heap.size, 3, none⟩ = some (.slice Af nf cf) := ((hMz.bk.below kb2 (Nat.lt_succ_self _)).cell 3).trans rfl
               have kF2 := hMz.fingers.kept kg2 (ne_row fun q hq e => hMz.pf q e hq)
               have kB2 := hFz.kept kg2 (ne_row fun q hq e => by have := (hFz.lt q hq).1; have := HAPL.out q e; omega)
               have kz2 := kg2.size)
            | ((refine stepS2 (base := Y.heap.size + 1) (A := Af) (n := nf) (c := cf) (L := f.fingers) (B := B1) (m := m1) (d := d1) (M := Fp) rfl (.tmp 78) (.tmp 79) (by rfl) (by rfl) (by rfl) (by rfl) (by repeat (first | with_reducible exact kF2 | with_reducible apply Own.drew)) (by repeat (first | with_reducible exact kB2.ints | with_reducible apply Ints.drewD)) (nf + m1) rfl (by omega) (Nat.le_trans hbase kz2) ?_)
               intro A3 c3 w3 hF3 hb3 hg3 hl3
               have kg3 : w2.grownBy w3 (blk Af) := ⟨hg3.os, hg3.tape, hg3.output, hg3.size, hg3.block⟩
               have kO := both_pf hMz hbase hQ2 kg2 (fun k hk => hl2 k hk) hF3 kg3 (fun k hk => by
                 rcases hl3 with e | e
                 · exact .inl (by rw [← e]; exact hk)
                 · rw [hk] at e
                   injection e with e
                   exact .inr (Nat.le_of_eq e.symm))
               have kBk := hMz.bk.below kO.below (Nat.lt_succ_self _)
               have y2 : w3.cell? ⟨Y.heap.size, 2, none⟩ = some (.slice Ap np cp) := (kBk.cell 2).trans rfl
               have y3 : w3.cell? ⟨Y.heap.size, 3, none⟩ = some (.slice Af nf cf) := (kBk.cell 3).trans rfl
               have y4 := kBk.frozen 2
               have y5 := kBk.frozen 3))
          all_goals
            have g1 := only_setCell (only_setCell (World.grownBy.refl w3 (some Y.heap.size)) (p := ⟨Y.heap.size, 2, none⟩) (.inl rfl) (.slice A2 (np + n1) c2)) (p := ⟨Y.heap.size, 3, none⟩) (.inl rfl) (.slice A3 (nf + m1) c3)
            have kM : FaceM ((w3.setCell ⟨Y.heap.size, 2, none⟩ (.slice A2 (np + n1) c2)).setCell ⟨Y.heap.size, 3, none⟩ (.slice A3 (nf + m1) c3)) (Y.heap.size + 1) Y.heap.size { f with places := f.places ++ Qp, fingers := f.fingers ++ Fp } Ad A2 A3 nd cd (np + n1) c2 (nf + m1) c3 :=
              ⟨(kBk.set_ 2 _).set_ 3 _, kO.darts.kept g1 (ne_some fun q hq => by have := (kO.darts.lt q hq).1; omega), kO.places.kept g1 (ne_some fun q hq => by have := (kO.places.row.lt q hq).1; omega), kO.fingers.kept g1 (ne_some fun q hq => by have := (kO.fingers.lt q hq).1; omega), kO.dp, kO.df, kO.pf⟩
            have kB := ((kO.below.mono (Nat.le_succ _)).setCell (p := ⟨Y.heap.size, 2, none⟩) (Nat.le_refl _) (.slice A2 (np + n1) c2)).setCell (p := ⟨Y.heap.size, 3, none⟩) (Nat.le_refl _) (.slice A3 (nf + m1) c3)
            go_wp2_with fail
            go_meet
            case rel => exact ⟨_, A2, A3, c2, c3, rfl, kM, kB⟩
        case rest =>
          obtain ⟨wy, A2, A3, c2', c3', rfl, hMy, hby⟩ := hcut
          have hou := HOU.out
          have hsy := hsz.below hby (by omega)
          have hRy := hRz.below hby (by omega)
          have hgy := only_below hgz hby (by omega)
          have hv1 : ∀ o : Bool, FaceM (wy.setCell ⟨Y.heap.size, 4, none⟩ (.bool o)) (Y.heap.size + 1) Y.heap.size { f with places := f.places ++ Qp, fingers := f.fingers ++ Fp, outer := o } Ad A2 A3 nd cd (np + n1) c2' (nf + m1) c3' := fun o => by
            have g1 := only_setCell (World.grownBy.refl wy (some Y.heap.size)) (p := ⟨Y.heap.size, 4, none⟩) (.inl rfl) (.bool o)
            exact ⟨hMy.bk.set_ 4 _, hMy.darts.kept g1 (ne_some fun q hq => by have := (hMy.darts.lt q hq).1; omega), hMy.places.kept g1 (ne_some fun q hq => by have := (hMy.places.row.lt q hq).1; omega), hMy.fingers.kept g1 (ne_some fun q hq => by have := (hMy.fingers.lt q hq).1; omega), hMy.dp, hMy.df, hMy.pf⟩
          have hMv := hv1 ou
          have hsv := hsy.far (p := ⟨Y.heap.size, 4, none⟩) (by simp; omega) (.bool ou)
          have hRv := hRy.far (p := ⟨Y.heap.size, 4, none⟩) (by simp; omega) (.bool ou)
          have hgv := only_setCell hgy (p := ⟨Y.heap.size, 4, none⟩) (.inr (by simp; omega)) (.bool ou)
          have v4 : wy.cell? ⟨Y.heap.size, 4, none⟩ = some (.bool f.outer) := (hMy.bk.cell 4).trans rfl
          have v5 := hMy.bk.frozen 4
          clear u2 u3 u4 u5 hMz hsz hRz hgz hQz hFz hby hv1 hMy hsy hRy hgy
          cases ho : f.outer with
          | true =>
            rw [ho] at v4 hou
            have hot : ou = true := by rw [hou]; rfl
            have HO := Lib.hid ho
            clear ho hou HOU
            subst hot
            go_wp2_with fail
            refine (dia_left x base p k A n c L b g2 g3 g4 g6 s P C ids _ (hDR.out _ hgv) (by rw [HDN.out]; exact hx)).mono ?_
            rintro e w5 ⟨rfl, hb5⟩
            have hM5 := hMv.next hb5
            have hs5 := hsv.below hb5 hsv.lt
            have hR5 := hRv.below hb5 hRv.lt
            have hg5 := only_below hgv hb5 hgv.size
            have hu5 := hs5.unW
            clear hMv hsv hRv hgv hb5 v4 v5
            generalize leftF L (axL L) x = x' at hx' hxlt HE1 ⊢
            have HST := Lib.hid (stepsN_lt (u := unN si) hxlt)
            have HST2 := Lib.hid (stepsN_ge (u := unN si) hlt)
            go_wp2_with fail
            go_roundw
            case rel => exact ⟨x', k', si, _, Ad, A2, A3, nd, cd, np + n1, c2', nf + m1, c3', hx', rfl, hs5, hM5, hg5, hR5, hnd, by rw [HST.out]; omega, by rw [HST.out]; omega, by rw [HST.out]; omega, HE1⟩
            case measure =>
              have e1 := HST.out
              have e2 := HST2.out
              unfold msF
              rw [hu5, hu1]
              simp [intOf]
              omega
          | false =>
            rw [ho] at v4 hou
            have q8 : ((j : Int) == (m : Int) - 1) = ou := by
              rw [hou, Bool.false_or, Bool.eq_iff_iff]
              simp
              omega
            have HO := Lib.hid ho
            clear ho hou HOU
            go_wp2_with fail
            refine (dia_left x base p k A n c L b g2 g3 g4 g6 s P C ids _ (hDR.out _ hgv) (by rw [HDN.out]; exact hx)).mono ?_
            rintro e w5 ⟨rfl, hb5⟩
            have hM5 := hMv.next hb5
            have hs5 := hsv.below hb5 hsv.lt
            have hR5 := hRv.below hb5 hRv.lt
            have hg5 := only_below hgv hb5 hgv.size
            have hu5 := hs5.unW
            clear hMv hsv hRv hgv hb5 v4 v5
            generalize leftF L (axL L) x = x' at hx' hxlt HE1 ⊢
            have HST := Lib.hid (stepsN_lt (u := unN si) hxlt)
            have HST2 := Lib.hid (stepsN_ge (u := unN si) hlt)
            go_wp2_with fail
            go_roundw
            case rel => exact ⟨x', k', si, _, Ad, A2, A3, nd, cd, np + n1, c2', nf + m1, c3', hx', rfl, hs5, hM5, hg5, hR5, hnd, by rw [HST.out]; omega, by rw [HST.out]; omega, by rw [HST.out]; omega, HE1⟩
            case measure =>
              have e1 := HST.out
              have e2 := HST2.out
              unfold msF
              rw [hu5, hu1]
              simp [intOf]
              omega
end Go.Proofs.YtkjcmppaapbabaaDoor
