/-
  Contract: ref.Less. Conditions: the slices read as lists of ints.
  Contracts: the document's number, Less. Conditions: the arguments read as codes of as many letters.
  Contracts: the document's Start, Normal, Same. Conditions: the arguments read as codes; for Normal they are valid.
  Contracts: the document's Normal, Same. Conditions: the arguments read as valid codes.
  Contract: the document's Same. Conditions: the arguments read as valid codes.
-/
import Derived.Test.YtkjcmppaapbabaaDoorJB
import Derived.Test.YtkjcmppaapbabaaDoorJW
import Derived.Lib.Hide
import Derived.Test.YtkjcmppaapbabaaDoorJH
import Derived.Test.YtkjcmppaapbabaaDoorJG
import Derived.Test.YtkjcmppaapbabaaDoorJR
import Derived.Test.YtkjcmppaapbabaaDoorJO
import Derived.Test.YtkjcmppaapbabaaDoorJQ
namespace Go.Proofs.YtkjcmppaapbabaaDoor
section
open Go.RowKit
set_option maxHeartbeats 800000 in
theorem ref_less (A B : Option Addr) (n c d : Nat) (L M : List Int) (w : World) (hA : Ints w A n L) (hB : Ints w B n M) :
    Calls Tryd.prog 131 #[.slice A n c, .slice B n d] w fun e w' => e = .returned (.bool (decide (cmpL L M < 0))) ∧ Drawn w w' := by
  have hle := hA.le
  have HL := Lib.hid hA.len
  have HM := Lib.hid hB.len
  go_enter Tryd.func131, Tryd.ntmps131
  go_wp2_with fail
  go_loopw [5] (fun i wr => ∃ k : Nat, k ≤ n ∧ i = .int .i64 k ∧ Hid (cmpL (L.drop k) (M.drop k) = cmpL L M) ∧ Drawn w wr) (fun i _ => n - (intOf i).toNat)
  case atStart => exact ⟨0, Nat.zero_le _, rfl, rfl, Drawn.refl w⟩
  case round =>
    obtain ⟨k, hk, rfl, heq, m, rfl⟩ := hrel
    by_cases hlt : k < n
    · obtain ⟨ad, x, rfl, hx, hx1, hx2, hc⟩ := hA.at_ hlt
      obtain ⟨bd, y, rfl, hy, hy1, hy2, hd⟩ := hB.at_ hlt
      by_cases hxy : x = y
      · subst hxy
        have hn' := Lib.hid ((cmpL_same hx.out hy.out).symm.trans heq.out)
        go_wp2_with fail
        go_quiet (fail)
        go_wp2_with fail
        go_roundw
        case rel => exact ⟨k + 1, by omega, by go_num, hn', drawn1 _ _⟩
        case measure => simp [intOf]; omega
      · have hf := Lib.hid ((cmpL_diff hx.out hy.out hxy).symm.trans heq.out)
        have h2' : (x != y) = true := by simpa using hxy
        clear hxy
        go_wp2_with fail
        go_quiet (fail)
        go_wp2_with fail
        go_quiet (fail)
        go_wp2_with fail
        go_ret
        exact ⟨ret_bool (by rw [← hf.out]; apply decide_eq_decide.2; omega), (drawn2 _ _ _).drewN _⟩
    · go_wp2_with fail
      go_ret
      have hkn : k = n := by omega
      subst hkn
      refine ⟨ret_bool ?_, drawn1 _ _⟩
      rw [← heq.out, List.drop_of_length_le (by rw [HL.out]; omega), cmpL_nil]
      rfl
end

section
open Go.RowKit
/-- A letter's numbers. -/
def numL (l : Lt) : List Int := [l.kind, l.gate, l.rank, l.id, if l.over then 1 else 0, l.sign]
theorem cmp_ne {a b : Int} {A B : List Int} (h : ¬ a = b) : cmpL (a :: A) (b :: B) = a - b := by unfold cmpL; rw [if_neg h]
theorem cmp_eq {a b : Int} {A B : List Int} (h : a = b) : cmpL (a :: A) (b :: B) = cmpL A B := by
  show (if a = b then cmpL A B else a - b) = _
  rw [if_pos h]
theorem num_less (a b : Lt) : decide (cmpL (numL a) (numL b) < 0) = lsB a b := by
  unfold numL
  by_cases h1 : a.kind = b.kind
  · rw [cmp_eq h1]
    by_cases h2 : a.gate = b.gate
    · rw [cmp_eq h2]
      by_cases h3 : a.rank = b.rank
      · rw [cmp_eq h3]
        by_cases h4 : a.id = b.id
        · rw [cmp_eq h4]
          by_cases h5 : a.over = b.over
          · rw [cmp_eq (by rw [h5]), lss h1 h2 h3 h4 h5]
            by_cases h6 : a.sign = b.sign
            · rw [cmp_eq h6, cmpL_nil]; simp [h6]
            · rw [cmp_ne h6]; apply decide_eq_decide.2; omega
          · rw [lso h1 h2 h3 h4 h5]
            cases ha : a.over <;> cases hb : b.over
            · exact absurd (ha.trans hb.symm) h5
            · rw [cmp_ne (by simp)]; rfl
            · rw [cmp_ne (by simp)]; rfl
            · exact absurd (ha.trans hb.symm) h5
        · rw [cmp_ne h4, lsi h1 h2 h3 h4]; apply decide_eq_decide.2; omega
      · rw [cmp_ne h3, lsr h1 h2 h3]; apply decide_eq_decide.2; omega
    · rw [cmp_ne h2, lsg h1 h2]; apply decide_eq_decide.2; omega
  · rw [cmp_ne h1, lsk h1]; apply decide_eq_decide.2; omega
theorem ints_six {w : World} {t : TypeId} {a b c d e f : Int} (h : I64 a ∧ I64 b ∧ I64 c ∧ I64 d ∧ I64 e ∧ I64 f) :
    Ints (w.alloc (.cells #[.int .i64 a, .int .i64 b, .int .i64 c, .int .i64 d, .int .i64 e, .int .i64 f] t)) (some ⟨w.heap.size, 0, none⟩) 6 [a, b, c, d, e, f] := by
  refine ⟨rfl, by omega, ?_, fun _ => ⟨_, rfl, by simp, ?_⟩⟩
  · intro x hx
    simp at hx
    rcases hx with rfl | rfl | rfl | rfl | rfl | rfl
    · exact h.1
    · exact h.2.1
    · exact h.2.2.1
    · exact h.2.2.2.1
    · exact h.2.2.2.2.1
    · exact h.2.2.2.2.2
  · intro j x hj
    rw [add_eta rfl]
    rw [World.cell?_alloc_at _ _ _ _ rfl]
    show #[Value.int .i64 a, .int .i64 b, .int .i64 c, .int .i64 d, .int .i64 e, .int .i64 f][0 + j]? = _
    rw [Nat.zero_add]
    match j, hj with
    | 0, hj => simp at hj; subst hj; rfl
    | 1, hj => simp at hj; subst hj; rfl
    | 2, hj => simp at hj; subst hj; rfl
    | 3, hj => simp at hj; subst hj; rfl
    | 4, hj => simp at hj; subst hj; rfl
    | 5, hj => simp at hj; subst hj; rfl
    | k + 6, hj => simp at hj
set_option maxRecDepth 100000 in
set_option maxHeartbeats 3200000 in
theorem cref_number (x : Lt) (hx : LtOk x) (w : World) :
    Calls Tryd.prog 132 #[.agg #[.int .i64 x.kind, .int .i64 x.gate, .int .i64 x.rank, .int .i64 x.id, .int .i64 x.sign, .bool x.over]] w fun e w' => ∃ g, e = .returned (.slice (some ⟨g, 0, none⟩) 6 6) ∧ Ints w' (some ⟨g, 0, none⟩) 6 (numL x) ∧ Below w.heap.size w w' := by
  have h01 : I64 (if x.over then 1 else 0) := by split <;> exact ⟨by omega, by omega⟩
  have hb1 : Below w.heap.size w (w.alloc (.cells #[.int .i64 x.kind, .int .i64 x.gate, .int .i64 x.rank, .int .i64 x.id, .int .i64 x.sign, .bool x.over] 46)) := (Below.refl _ _).alloc (Nat.le_refl _) _
  have h6 := fun W => ints_six (w := W) (t := 3) (a := x.kind) (b := x.gate) (c := x.rank) (d := x.id) (e := if x.over then 1 else 0) (f := x.sign) ⟨hx.kind, hx.gate, hx.rank, hx.id, h01, hx.sign⟩
  have H6 := Lib.hid h6
  clear h6 h01
  obtain ⟨o, ho⟩ : ∃ o, x.over = o := ⟨_, rfl⟩
  have HO := Lib.hid ho
  rw [ho] at hb1 ⊢
  cases o with
  | true =>
    have e5 : (if x.over then (1 : Int) else 0) = 1 := by rw [HO.out]; rfl
    have H7 : Hid (∀ (W : World) (k : Nat), W.heap.size = k → Ints (W.alloc (.cells #[.int .i64 x.kind, .int .i64 x.gate, .int .i64 x.rank, .int .i64 x.id, .int .i64 1, .int .i64 x.sign] 3)) (some ⟨k, 0, none⟩) 6 (numL x)) := Lib.hid (fun W k hk => by have := H6.out W; unfold numL; rw [e5, hk] at this; rw [e5]; exact this)
    clear e5 ho
    go_enter Tryd.func132, Tryd.ntmps132
    go_wp2_with fail
    go_ret
    exact ⟨_, rfl, H7.out _ _ (by simp), hb1.alloc (by simp) _⟩
  | false =>
    have e5 : (if x.over then (1 : Int) else 0) = 0 := by rw [HO.out]; rfl
    have H7 : Hid (∀ (W : World) (k : Nat), W.heap.size = k → Ints (W.alloc (.cells #[.int .i64 x.kind, .int .i64 x.gate, .int .i64 x.rank, .int .i64 x.id, .int .i64 0, .int .i64 x.sign] 3)) (some ⟨k, 0, none⟩) 6 (numL x)) := Lib.hid (fun W k hk => by have := H6.out W; unfold numL; rw [e5, hk] at this; rw [e5]; exact this)
    clear e5 ho
    go_enter Tryd.func132, Tryd.ntmps132
    go_wp2_with fail
    go_ret
    exact ⟨_, rfl, H7.out _ _ (by simp), hb1.alloc (by simp) _⟩
set_option maxRecDepth 100000 in
set_option maxHeartbeats 6400000 in
theorem cref_Less (K1 K2 : Int) (A B : Option Addr) (n c d : Nat) (L M : List Lt) (w : World) (hA : Lets w A n L) (hB : Lets w B n M) :
    Calls Tryd.prog 100 #[.agg #[.int .i64 K1, .slice A n c], .agg #[.int .i64 K2, .slice B n d]] w fun e w' => e = .returned (.bool (bfB L M)) ∧ Below w.heap.size w w' := by
  have hle := hA.le
  have hLn := hA.len
  have hMn := hB.len
  have hb2 : Below w.heap.size w ((w.alloc (.cells #[.int .i64 K1, .slice A n c] 24)).alloc (.cells #[.int .i64 K2, .slice B n d] 24)) := ((Below.refl _ _).alloc (Nat.le_refl _) _).alloc (by simp) _
  have HL := Lib.hid hLn
  have HM := Lib.hid hMn
  clear hLn hMn
  have bB : Blk ((w.alloc (.cells #[.int .i64 K1, .slice A n c] 24)).alloc (.cells #[.int .i64 K2, .slice B n d] 24)) (w.heap.size + 1) 24 #[.int .i64 K2, .slice B n d] := heap_alloc2_new w _ _
  have bA := (Blk.new w 24 #[.int .i64 K1, .slice A n c]).alloc (.cells #[.int .i64 K2, .slice B n d] 24)
  go_enter Tryd.func100, Tryd.ntmps100
  go_wp2_with fail
  generalize (w.alloc (.cells #[.int .i64 K1, .slice A n c] 24)).alloc (.cells #[.int .i64 K2, .slice B n d] 24) = W at hb2 bA bB ⊢
  have hst : Hid (∀ j, j < 0 → la L j = la M j) := Lib.hid (fun j hj => by omega)
  go_loopw [5] (fun v5 wr => ∃ i : Nat, i ≤ n ∧ v5 = .int .i64 i ∧ Below W.heap.size W wr ∧ Hid (∀ j, j < i → la L j = la M j)) (fun v5 _ => n - (intOf v5).toNat)
  case atStart => exact ⟨0, Nat.zero_le _, rfl, Below.refl _ _, hst⟩
  case round =>
    obtain ⟨i, hi, rfl, hbr, HS⟩ := hrel
    clear hst
    have e1 : wr.cell? ⟨w.heap.size, 1, none⟩ = some (.slice A n c) := ((bA.below hbr bA.lt).cell 1).trans rfl
    have e2 : wr.cell? ⟨w.heap.size + 1, 1, none⟩ = some (.slice B n d) := ((bB.below hbr bB.lt).cell 1).trans rfl
    have hbw := below_chain hb2 hbr hb2.size
    by_cases hlt : i < n
    · obtain ⟨g1, o1, rfl, hg1, hx, hok1⟩ := (hA.below hbw).at_ hlt
      obtain ⟨g2, o2, rfl, hg2, hy, hok2⟩ := (hB.below hbw).at_ hlt
      have i0 : (0 : Int) ≤ (i : Int) := by omega
      have i1 : (i : Int) < (n : Int) := by omega
      cases hq : ltB (la L i) (la M i) with
      | true =>
        have heq := fun w => eqLt (la L i) (la M i) w
        obtain ⟨x0, x1, x2, x3, x4, x5⟩ := hx
        obtain ⟨y0, y1, y2, y3, y4, y5⟩ := hy
        have HS1 := Lib.hid (show ∀ j, j < i + 1 → la L j = la M j from fun j hj => by
          rcases Nat.decEq j i with e | e
          · exact HS.out j (by omega)
          · subst e; exact ltB_iff.1 hq)
        clear HS hok1 hok2
        go_wp2_with fail
        go_quiet (fail)
        go_wp2_with fail
        go_roundw
        case rel => exact ⟨i + 1, by omega, by go_num, below_drewN hbr _, HS1⟩
        case measure => simp [intOf]; omega
      | false =>
        have hne : la L i ≠ la M i := fun e => by rw [ltB_iff.2 e] at hq; cases hq
        have hbf := bf_at (by rw [HL.out]; exact hlt) (by rw [HM.out]; exact hlt) HS.out hne
        have hnl := num_less (la L i) (la M i)
        have heq := fun w => eqLt (la L i) (la M i) w
        rw [hq] at heq
        obtain ⟨x, hxe⟩ : ∃ x, la L i = x := ⟨_, rfl⟩
        obtain ⟨y, hye⟩ : ∃ y, la M i = y := ⟨_, rfl⟩
        rw [hxe, hye] at hbf hnl heq
        rw [hxe] at hx hok1
        rw [hye] at hy hok2
        obtain ⟨R, hR⟩ : ∃ R, lsB x y = R := ⟨_, rfl⟩
        rw [hR] at hbf hnl
        have HBF := Lib.hid hbf
        have hls : ∀ (wx : World) (A3 A4 : Option Addr) (c3 c4 : Nat), Ints wx A3 6 (numL x) → Ints wx A4 6 (numL y) → Calls Tryd.prog 131 #[.slice A3 6 c3, .slice A4 6 c4] wx fun e w' => e = .returned (.bool R) ∧ Below wx.heap.size wx w' := fun wx A3 A4 c3 c4 h3 h4 => by
          refine (ref_less A3 A4 6 c3 c4 (numL x) (numL y) wx h3 h4).mono ?_
          rintro e w' ⟨rfl, hd⟩
          exact ⟨by rw [hnl], hd.below _⟩
        have HLS := Lib.hid hls
        have HNX := Lib.hid (fun wx => cref_number x hok1 wx)
        have HNY := Lib.hid (fun wx => cref_number y hok2 wx)
        obtain ⟨x0, x1, x2, x3, x4, x5⟩ := hx
        obtain ⟨y0, y1, y2, y3, y4, y5⟩ := hy
        clear HS hls hnl hbf hne hok1 hok2 hxe hye hR hq
        go_wp2_with fail
        go_quiet (fail)
        go_upto_region 5 with fail
        have hD5 : Below wr.heap.size wr (wr.drewN nq) := below_drewN (Below.refl _ _) nq
        have hs5 : (wr.drewN nq).heap.size = wr.heap.size := rfl
        generalize wr.drewN nq = W5 at hD5 hs5 ⊢
        have hwlt : w.heap.size + 1 < wr.heap.size := (bB.below hbr bB.lt).lt
        have k0 : ∀ wx, Below W5.heap.size W5 wx → (Below W5.heap.size W5 wx ∧ wx.cell? ⟨w.heap.size, 1, none⟩ = some (.slice (some ⟨g1, o1, none⟩) n c) ∧ wx.cell? ⟨w.heap.size + 1, 1, none⟩ = some (.slice (some ⟨g2, o2, none⟩) n d) ∧ wx.cell? ⟨g1, o1 + i * 6, none⟩ = some (.int .i64 x.kind) ∧ wx.cell? ⟨g1, o1 + i * 6 + 1, none⟩ = some (.int .i64 x.gate) ∧ wx.cell? ⟨g1, o1 + i * 6 + 2, none⟩ = some (.int .i64 x.rank) ∧ wx.cell? ⟨g1, o1 + i * 6 + 3, none⟩ = some (.int .i64 x.id) ∧ wx.cell? ⟨g1, o1 + i * 6 + 4, none⟩ = some (.int .i64 x.sign) ∧ wx.cell? ⟨g1, o1 + i * 6 + 5, none⟩ = some (.bool x.over) ∧ wx.cell? ⟨g2, o2 + i * 6, none⟩ = some (.int .i64 y.kind) ∧ wx.cell? ⟨g2, o2 + i * 6 + 1, none⟩ = some (.int .i64 y.gate) ∧ wx.cell? ⟨g2, o2 + i * 6 + 2, none⟩ = some (.int .i64 y.rank) ∧ wx.cell? ⟨g2, o2 + i * 6 + 3, none⟩ = some (.int .i64 y.id) ∧ wx.cell? ⟨g2, o2 + i * 6 + 4, none⟩ = some (.int .i64 y.sign) ∧ wx.cell? ⟨g2, o2 + i * 6 + 5, none⟩ = some (.bool y.over)) := fun wx h => ⟨h, (h.cell (p := ⟨w.heap.size, 1, none⟩) (by simp; omega)).trans ((hD5.cell (p := ⟨w.heap.size, 1, none⟩) (by simp; omega)).trans e1), (h.cell (p := ⟨w.heap.size + 1, 1, none⟩) (by simp; omega)).trans ((hD5.cell (p := ⟨w.heap.size + 1, 1, none⟩) (by simp; omega)).trans e2), (h.cell (p := ⟨g1, o1 + i * 6, none⟩) (by simp; omega)).trans ((hD5.cell (p := ⟨g1, o1 + i * 6, none⟩) (by simp; omega)).trans x0), (h.cell (p := ⟨g1, o1 + i * 6 + 1, none⟩) (by simp; omega)).trans ((hD5.cell (p := ⟨g1, o1 + i * 6 + 1, none⟩) (by simp; omega)).trans x1), (h.cell (p := ⟨g1, o1 + i * 6 + 2, none⟩) (by simp; omega)).trans ((hD5.cell (p := ⟨g1, o1 + i * 6 + 2, none⟩) (by simp; omega)).trans x2), (h.cell (p := ⟨g1, o1 + i * 6 + 3, none⟩) (by simp; omega)).trans ((hD5.cell (p := ⟨g1, o1 + i * 6 + 3, none⟩) (by simp; omega)).trans x3), (h.cell (p := ⟨g1, o1 + i * 6 + 4, none⟩) (by simp; omega)).trans ((hD5.cell (p := ⟨g1, o1 + i * 6 + 4, none⟩) (by simp; omega)).trans x4), (h.cell (p := ⟨g1, o1 + i * 6 + 5, none⟩) (by simp; omega)).trans ((hD5.cell (p := ⟨g1, o1 + i * 6 + 5, none⟩) (by simp; omega)).trans x5), (h.cell (p := ⟨g2, o2 + i * 6, none⟩) (by simp; omega)).trans ((hD5.cell (p := ⟨g2, o2 + i * 6, none⟩) (by simp; omega)).trans y0), (h.cell (p := ⟨g2, o2 + i * 6 + 1, none⟩) (by simp; omega)).trans ((hD5.cell (p := ⟨g2, o2 + i * 6 + 1, none⟩) (by simp; omega)).trans y1), (h.cell (p := ⟨g2, o2 + i * 6 + 2, none⟩) (by simp; omega)).trans ((hD5.cell (p := ⟨g2, o2 + i * 6 + 2, none⟩) (by simp; omega)).trans y2), (h.cell (p := ⟨g2, o2 + i * 6 + 3, none⟩) (by simp; omega)).trans ((hD5.cell (p := ⟨g2, o2 + i * 6 + 3, none⟩) (by simp; omega)).trans y3), (h.cell (p := ⟨g2, o2 + i * 6 + 4, none⟩) (by simp; omega)).trans ((hD5.cell (p := ⟨g2, o2 + i * 6 + 4, none⟩) (by simp; omega)).trans y4), (h.cell (p := ⟨g2, o2 + i * 6 + 5, none⟩) (by simp; omega)).trans ((hD5.cell (p := ⟨g2, o2 + i * 6 + 5, none⟩) (by simp; omega)).trans y5)⟩
        have re1 : W5.cell? ⟨w.heap.size, 1, none⟩ = some (.slice (some ⟨g1, o1, none⟩) n c) := (hD5.cell (p := ⟨w.heap.size, 1, none⟩) (by simp; omega)).trans e1
        have re2 : W5.cell? ⟨w.heap.size + 1, 1, none⟩ = some (.slice (some ⟨g2, o2, none⟩) n d) := (hD5.cell (p := ⟨w.heap.size + 1, 1, none⟩) (by simp; omega)).trans e2
        have rx0 : W5.cell? ⟨g1, o1 + i * 6, none⟩ = some (.int .i64 x.kind) := (hD5.cell (p := ⟨g1, o1 + i * 6, none⟩) (by simp; omega)).trans x0
        have rx1 : W5.cell? ⟨g1, o1 + i * 6 + 1, none⟩ = some (.int .i64 x.gate) := (hD5.cell (p := ⟨g1, o1 + i * 6 + 1, none⟩) (by simp; omega)).trans x1
        have rx2 : W5.cell? ⟨g1, o1 + i * 6 + 2, none⟩ = some (.int .i64 x.rank) := (hD5.cell (p := ⟨g1, o1 + i * 6 + 2, none⟩) (by simp; omega)).trans x2
        have rx3 : W5.cell? ⟨g1, o1 + i * 6 + 3, none⟩ = some (.int .i64 x.id) := (hD5.cell (p := ⟨g1, o1 + i * 6 + 3, none⟩) (by simp; omega)).trans x3
        have rx4 : W5.cell? ⟨g1, o1 + i * 6 + 4, none⟩ = some (.int .i64 x.sign) := (hD5.cell (p := ⟨g1, o1 + i * 6 + 4, none⟩) (by simp; omega)).trans x4
        have rx5 : W5.cell? ⟨g1, o1 + i * 6 + 5, none⟩ = some (.bool x.over) := (hD5.cell (p := ⟨g1, o1 + i * 6 + 5, none⟩) (by simp; omega)).trans x5
        have ry0 : W5.cell? ⟨g2, o2 + i * 6, none⟩ = some (.int .i64 y.kind) := (hD5.cell (p := ⟨g2, o2 + i * 6, none⟩) (by simp; omega)).trans y0
        have ry1 : W5.cell? ⟨g2, o2 + i * 6 + 1, none⟩ = some (.int .i64 y.gate) := (hD5.cell (p := ⟨g2, o2 + i * 6 + 1, none⟩) (by simp; omega)).trans y1
        have ry2 : W5.cell? ⟨g2, o2 + i * 6 + 2, none⟩ = some (.int .i64 y.rank) := (hD5.cell (p := ⟨g2, o2 + i * 6 + 2, none⟩) (by simp; omega)).trans y2
        have ry3 : W5.cell? ⟨g2, o2 + i * 6 + 3, none⟩ = some (.int .i64 y.id) := (hD5.cell (p := ⟨g2, o2 + i * 6 + 3, none⟩) (by simp; omega)).trans y3
        have ry4 : W5.cell? ⟨g2, o2 + i * 6 + 4, none⟩ = some (.int .i64 y.sign) := (hD5.cell (p := ⟨g2, o2 + i * 6 + 4, none⟩) (by simp; omega)).trans y4
        have ry5 : W5.cell? ⟨g2, o2 + i * 6 + 5, none⟩ = some (.bool y.over) := (hD5.cell (p := ⟨g2, o2 + i * 6 + 5, none⟩) (by simp; omega)).trans y5
        have KP := Lib.hid k0
        have hbw5 := below_chain hbw hD5 hbw.size
        clear k0 e1 e2 x0 x1 x2 x3 x4 x5 y0 y1 y2 y3 y4 y5
        first
          | go_region_held3 (fun wx => Below W5.heap.size W5 wx ∧ wx.cell? ⟨w.heap.size, 1, none⟩ = some (.slice (some ⟨g1, o1, none⟩) n c) ∧ wx.cell? ⟨w.heap.size + 1, 1, none⟩ = some (.slice (some ⟨g2, o2, none⟩) n d) ∧ wx.cell? ⟨g1, o1 + i * 6, none⟩ = some (.int .i64 x.kind) ∧ wx.cell? ⟨g1, o1 + i * 6 + 1, none⟩ = some (.int .i64 x.gate) ∧ wx.cell? ⟨g1, o1 + i * 6 + 2, none⟩ = some (.int .i64 x.rank) ∧ wx.cell? ⟨g1, o1 + i * 6 + 3, none⟩ = some (.int .i64 x.id) ∧ wx.cell? ⟨g1, o1 + i * 6 + 4, none⟩ = some (.int .i64 x.sign) ∧ wx.cell? ⟨g1, o1 + i * 6 + 5, none⟩ = some (.bool x.over) ∧ wx.cell? ⟨g2, o2 + i * 6, none⟩ = some (.int .i64 y.kind) ∧ wx.cell? ⟨g2, o2 + i * 6 + 1, none⟩ = some (.int .i64 y.gate) ∧ wx.cell? ⟨g2, o2 + i * 6 + 2, none⟩ = some (.int .i64 y.rank) ∧ wx.cell? ⟨g2, o2 + i * 6 + 3, none⟩ = some (.int .i64 y.id) ∧ wx.cell? ⟨g2, o2 + i * 6 + 4, none⟩ = some (.int .i64 y.sign) ∧ wx.cell? ⟨g2, o2 + i * 6 + 5, none⟩ = some (.bool y.over)) (first | assumption | exact KP.out _ (Below.refl _ _).drew | exact KP.out _ (below_chain (And.left (by assumption)) (by assumption) (Below.size (And.left (by assumption)))))
              (first
                | ((go_at_call 132; (with_reducible refine (HNX.out _).mono ?_); rintro e q1 ⟨ga, rfl, hN1, hz1⟩))
                | ((go_at_call 132; (with_reducible refine (HNY.out _).mono ?_); rintro e q2 ⟨gb, rfl, hN2, hz2⟩))
                | ((go_at_call 131; (with_reducible refine (HLS.out _ _ _ _ _ (hN1.below hz2) hN2).mono ?_); rintro e q3 ⟨rfl, hz3⟩))
                | ((go_at_call 131; (with_reducible refine (HLS.out _ _ _ _ _ hN1 (hN2.below hz1)).mono ?_); rintro e q3 ⟨rfl, hz3⟩)))
          | fail
        all_goals
          have hbf := And.left (show Below W5.heap.size W5 _ ∧ _ by assumption)
          go_wp2_with fail
          go_ret
          exact ⟨ret_bool HBF.out.symm, below_chain hbw5 hbf (by have := hbw.size; omega)⟩
    · have hin : i = n := by omega
      have hf := Lib.hid (show bfB L M = false from bf_no (fun j hj => HS.out j (by have := HL.out; omega)))
      have i1 : ¬ (i : Int) < (n : Int) := by omega
      clear HS hin
      go_wp2_with fail
      go_ret
      exact ⟨ret_bool hf.out.symm, hbw⟩
end

section
open Go.RowKit
set_option maxRecDepth 100000 in
set_option maxHeartbeats 6400000 in
theorem cref_Start (K : Int) (i : Nat) (A : Option Addr) (n c : Nat) (L : List Lt) (w : World) (hA : Lets w A n L) (hc : n ≤ c) (hi : i < n) :
    Calls Tryd.prog 64 #[.agg #[.int .i64 K, .slice A n c], .int .i64 i] w (GivesC w K (rotT L i)) := by
  have hle := hA.le
  have hbc2 := build_code2
  have hbx : Boxed w ((w.alloc (.cells #[.int .i64 K, .slice A n c] 24)).alloc (.cells #[.int .i64 0, .slice none 0 0] 24)) K A n c := (Boxed.refl w K A n c).alloc _
  have hR0 : Blk ((w.alloc (.cells #[.int .i64 K, .slice A n c] 24)).alloc (.cells #[.int .i64 0, .slice none 0 0] 24)) (w.heap.size + 1) 24 #[.int .i64 0, .slice none 0 0] := heap_alloc2_new w _ _
  obtain ⟨ga, oa, rfl, hga, _, _⟩ := hA.at_ hi
  go_enter Tryd.func64, Tryd.ntmps64
  go_upto_region 1 with fail
  generalize (w.alloc (.cells #[.int .i64 K, .slice (some ⟨ga, oa, none⟩) n c] 24)).alloc (.cells #[.int .i64 0, .slice none 0 0] 24) = X at hbx hR0 ⊢
  have x0 := hbx.c0
  have x1 := hbx.c1
  have hX := hR0.lt
  have hAX := hA.below hbx.below
  have i0 : (0 : Int) ≤ (i : Int) := by omega
  have i2 : (i : Int) ≤ (n : Int) := by omega
  have i3 : (i : Int) ≤ (c : Int) := by omega
  have f0 := hR0.frozen 0
  have f1 := hR0.frozen 1
  go_region_law (first
    | ((refine stepL (base := X.heap.size) (A := none) (n := 0) (c := 0) (L := []) (m := n - i) (d := c - i) (M := L.drop i) rfl (.const (.slice none 0 0)) (.tmp 10) (by rfl) (by rfl) (by rfl) (OwnL.nil _ _) (Lets.from' (c := c) (hAX.below (Below.refl _ _).drew) (by omega) hc) (n - i) (by omega) (by omega) (Nat.le_refl _) ?_)
       intro A1 c1 w1 hown1 hg1 hl1
       have kg1 : X.grownBy w1 (blk none) := ⟨hg1.os, hg1.tape, hg1.output, hg1.size, hg1.block⟩
       have kb1 : Below X.heap.size X w1 := (Below.refl _ _).grown kg1 (Nat.le_refl _) (fun k hk => by cases hk)
       have u0 : w1.cell? ⟨w.heap.size, 0, none⟩ = some (.int .i64 K) := (hbx.more kb1).c0
       have u1 : w1.cell? ⟨w.heap.size, 1, none⟩ = some (.slice (some ⟨ga, oa, none⟩) n c) := (hbx.more kb1).c1)
    | ((refine stepL (base := X.heap.size) (m := i) (d := c) (M := L.take i) rfl (.tmp 11) (.tmp 15) (by rfl) (by rfl) (by rfl) hown1 (Lets.to (hAX.below kb1) (by omega)) n (by omega) (by omega) kb1.size ?_)
       intro A2 c2 w2 hown2 hg2 hl2
       have kb2 : Below X.heap.size X w2 := kb1.trans ((Below.refl _ _).grown hg2 kb1.size (fun k hk => (hown1.row.lt k hk).1))
       have t0 : w2.cell? ⟨w.heap.size, 0, none⟩ = some (.int .i64 K) := (hbx.more kb2).c0
       have r0 : w2.cell? ⟨w.heap.size + 1, 0, none⟩ = some (.int .i64 0) := ((hR0.below kb2 hX).cell 0).trans rfl
       have r1 : w2.cell? ⟨w.heap.size + 1, 1, none⟩ = some (.slice none 0 0) := ((hR0.below kb2 hX).cell 1).trans rfl
       have g0 := (hR0.below kb2 hX).frozen 0
       have g1 := (hR0.below kb2 hX).frozen 1))
  all_goals
    have hG := copy_ends (w := w) (X := X) (K := K) (hR0.below kb2 hX) kb2 hbx.below (by omega) hown2
    go_wp2_with fail
    all_goals
      (try simp only [Exit.inBlock, Exit.then])
      refine ret_cellB rfl rfl hG.1 Tryd.underlying24 rfl (by kernel_rfl) rfl ?_
      exact ⟨A2, n, c2, rfl, by simpa [rotT] using hG.2.1, hG.2.2⟩
end

section
open Go.RowKit
theorem codeInfo : (Tryd.prog.info? 24).map (fun i => (i.zero, i.size, i.bytes)) = some (some (.agg #[.int .i64 0, .slice none 0 0]), 2, 32) := by kernel_rfl
theorem buildCC (K1 K2 : Int) (A B : Option Addr) (n c m d : Nat) (w : World) : (Instr.buildSlice 67 2 #[(0, .agg #[.int .i64 K1, .slice A n c]), (1, .agg #[.int .i64 K2, .slice B m d])]).run Tryd.prog w = .ok (.slice (some ⟨w.heap.size, 0, none⟩) 2 2) (w.alloc (.cells #[.int .i64 K1, .slice A n c, .int .i64 K2, .slice B m d] 24)) := by
  obtain ⟨i0, hi, hz0, hz1, hz2⟩ := info_parts codeInfo
  refine run_buildSlice w _ _ 2 _ _ i0 _ Tryd.underlying67 hi hz0 (by rw [hz1]; omega) (by rw [hz1]; omega) ?_
  rw [hz1]
  kernel_rfl
theorem cref_Down_at (K : Int) (i : Nat) (A : Option Addr) (n c : Nat) (L : List Lt) (b : Bool) (h : dwn L i = b) (w : World) (hA : Lets w A n L) (hi : i ≤ n) :
    Calls Tryd.prog 63 #[.agg #[.int .i64 K, .slice A n c], .int .i64 i] w fun e w' => e = .returned (.bool b) ∧ Below w.heap.size w w' := by
  subst h
  exact ref_Down K i A n c L w hA hi
def bestN (L : List Lt) (j i : Nat) : List Lt := (seqC L j i).foldl pick (renL L)
/-- What the loops keep: only the block of the best changes. -/
structure NorI (X W wr : World) (oB : Nat) (K : Int) (B : Option Addr) (n cB : Nat) (M : List Lt) : Prop where
  bk : Blk wr oB 24 #[.int .i64 K, .slice B n cB]
  own : OwnL wr X.heap.size B n cB M
  far : blk B ≠ some oB
  old : W.grownBy wr (some oB)
theorem NorI.next {X W wr wx : World} {oB : Nat} {K : Int} {B : Option Addr} {n cB : Nat} {M : List Lt} (h : NorI X W wr oB K B n cB M) (hb : Below wr.heap.size wr wx) : NorI X W wx oB K B n cB M :=
  ⟨h.bk.below hb h.bk.lt, h.own.next hb, h.far, only_below h.old hb h.old.size⟩
theorem NorI.take {X W wr : World} {oB : Nat} {K K' : Int} {B B' : Option Addr} {n n' cB cB' : Nat} {M M' : List Lt} (h : NorI X W wr oB K B n cB M) (h' : OwnL wr X.heap.size B' n' cB' M') (hf : blk B' ≠ some oB) :
    NorI X W ((wr.setCell ⟨oB, 0, none⟩ (.int .i64 K')).setCell ⟨oB, 1, none⟩ (.slice B' n' cB')) oB K' B' n' cB' M' := by
  refine ⟨(h.bk.set_ 0 _).set_ 1 _, ⟨h'.row.kept (only_setCell (only_setCell (World.grownBy.refl wr (some oB)) (p := ⟨oB, 0, none⟩) (.inl rfl) (.int .i64 K')) (p := ⟨oB, 1, none⟩) (.inl rfl) (.slice B' n' cB')) (.inr hf), h'.fits, h'.le⟩, hf, ?_⟩
  exact only_setCell (only_setCell h.old (p := ⟨oB, 0, none⟩) (.inl rfl) (.int .i64 K')) (p := ⟨oB, 1, none⟩) (.inl rfl) (.slice B' n' cB')
set_option maxRecDepth 100000 in
set_option maxHeartbeats 12800000 in
theorem cref_Normal (K : Int) (A : Option Addr) (n c : Nat) (L : List Lt) (w : World) (hA : Lets w A n L) (hc : n ≤ c) (hv : checkE K L = 0) :
    Calls Tryd.prog 51 #[.agg #[.int .i64 K, .slice A n c]] w (GivesC w K (normL L)) := by
  have hle := hA.le
  have hLn := Lib.hid hA.len
  have HSM := Lib.hid (tame_of_check hv)
  have HV := Lib.hid (check_parts hv)
  have hn4 : n ≤ 400 := by have := HSM.out.len; have := hA.len; omega
  have hbk : (backL L).length = n := by
    rcases HV.out.2.2.2 with h | h
    · rw [List.length_eq_zero_iff] at h
      subst h
      exact hLn.out
    · rcases Nat.eq_zero_or_pos L.length with h2 | h2
      · rw [List.length_eq_zero_iff] at h2
        subst h2
        exact hLn.out
      · rw [back_len h2 h]; exact hLn.out
  have HBK := Lib.hid hbk
  clear hbk hv
  have hbc2 := buildCC
  have hbx : Boxed w ((w.alloc (.cells #[.int .i64 K, .slice A n c] 24)).alloc (.cells #[.int .i64 0, .slice none 0 0] 24)) K A n c := (Boxed.refl w K A n c).alloc _
  have hR0 : Blk ((w.alloc (.cells #[.int .i64 K, .slice A n c] 24)).alloc (.cells #[.int .i64 0, .slice none 0 0] 24)) (w.heap.size + 1) 24 #[.int .i64 0, .slice none 0 0] := heap_alloc2_new w _ _
  go_enter Tryd.func51, Tryd.ntmps51
  go_wp2_with fail
  generalize (w.alloc (.cells #[.int .i64 K, .slice A n c] 24)).alloc (.cells #[.int .i64 0, .slice none 0 0] 24) = X at hbx hR0 ⊢
  refine (cref_Rename K A n c L _ (hA.below hbx.below) (by omega)).mono ?_
  rintro e u1 ⟨A1, n1, c1, rfl, hL1, hb1⟩
  obtain rfl : n1 = n := by rw [← hL1.len, ren_len, hLn.out]
  have hX := hR0.lt
  have hsz1 := hb1.size
  have hbx1 := (hbx.more hb1).alloc (.cells #[.int .i64 K, .slice A1 n1 c1] 24)
  have hI0 : NorI X (u1.alloc (.cells #[.int .i64 K, .slice A1 n1 c1] 24)) (u1.alloc (.cells #[.int .i64 K, .slice A1 n1 c1] 24)) u1.heap.size K A1 n1 c1 (renL L) :=
    ⟨Blk.new _ _ _, hL1.alloc _, fun e => by have := (hL1.row.lt _ e).2; omega, World.grownBy.refl _ _⟩
  have hR1 : Blk (u1.alloc (.cells #[.int .i64 K, .slice A1 n1 c1] 24)) (w.heap.size + 1) 24 #[.int .i64 0, .slice none 0 0] := (hR0.below hb1 hX).alloc _
  have hU1 : u1.heap.size < (u1.alloc (.cells #[.int .i64 K, .slice A1 n1 c1] 24)).heap.size := by simp
  have hwX := hbx.below
  have hXW := hb1.alloc hsz1 (.cells #[.int .i64 K, .slice A1 n1 c1] 24)
  clear hL1 hb1 hbx hR0
  go_upto_region 2 with fail
  generalize u1.alloc (.cells #[.int .i64 K, .slice A1 n1 c1] 24) = W at hbx1 hI0 hR1 hU1 hXW ⊢
  have hcl : ∀ wx, Below W.heap.size W wx → Calls Tryd.prog 45 #[.agg #[.int .i64 K, .slice A n1 c]] wx (GivesC wx K (backL L)) := fun wx h => cref_Back K A n1 c L wx (hA.below (hbx1.more h).below) HSM.out
  have k1 : ∀ wx, Below W.heap.size W wx → (wx.cell? ⟨w.heap.size, 0, none⟩ = some (.int .i64 K) ∧ wx.cell? ⟨w.heap.size, 1, none⟩ = some (.slice A n1 c)) := fun wx h => ⟨(hbx1.more h).c0, (hbx1.more h).c1⟩
  have HCL := Lib.hid hcl
  have KP := Lib.hid k1
  have KA := Lib.hid (show ∀ wx o, Below W.heap.size W wx → ((wx.alloc o).cell? ⟨w.heap.size, 0, none⟩ = some (.int .i64 K) ∧ (wx.alloc o).cell? ⟨w.heap.size, 1, none⟩ = some (.slice A n1 c)) from fun wx o h => k1 _ (h.alloc h.size o))
  have c0 := hbx1.c0
  have c1' := hbx1.c1
  clear hcl k1
  go_cut [4] (fun v4 wz => ∃ (wx : World) (g : Nat) (A2 : Option Addr) (c2 : Nat), wx = wz ∧ v4 = .slice (some ⟨g, 0, none⟩) 2 2 ∧ Blk wx g 24 #[.int .i64 K, .slice A n1 c, .int .i64 K, .slice A2 n1 c2] ∧ OwnL wx W.heap.size A2 n1 c2 (backL L) ∧ n1 ≤ c2 ∧ W.heap.size ≤ g ∧ Below W.heap.size W wx)
  case first =>
    first
      | go_region_held3 (fun wx => wx.cell? ⟨w.heap.size, 0, none⟩ = some (.int .i64 K) ∧ wx.cell? ⟨w.heap.size, 1, none⟩ = some (.slice A n1 c)) (first | assumption | exact KP.out _ (Below.refl _ _).drew | exact KP.out _ (by assumption) | exact KA.out _ _ (by assumption))
          ((go_at_call 45; refine (HCL.out _ (Below.refl _ _).drew).mono ?_; rintro e wy ⟨A2, n2, c2, rfl, hL2, hb3⟩; have hbz : Below W.heap.size W wy := below_chain (Below.refl W.heap.size W).drew hb3 (Nat.le_refl _)))
      | fail
    all_goals
      obtain rfl : n2 = n1 := by rw [← hL2.len, HBK.out]
      go_wp2_with fail
      go_meet
    all_goals
      exact ⟨_, _, A2, c2, rfl, rfl, Blk.new _ _ _, (hL2.alloc _).mono (Nat.le_refl _), hL2.row.cap, hbz.size, hbz.alloc hbz.size _⟩
  case rest =>
    obtain ⟨W2, g, A2, c2, rfl, rfl, hbG, hA2, hc2, hgW, hbW⟩ := hcut
    have hI1 := hI0.next (hbW.mono (Nat.le_refl _))
    have hI2 : NorI X W2 W2 u1.heap.size K A1 n1 c1 (bestN L 0 0) := ⟨hI1.bk, hI1.own, hI1.far, World.grownBy.refl _ _⟩
    have hbx2 := hbx1.more hbW
    have hR2 := hR1.below hbW hR1.lt
    have hglt := hbG.lt
    have hszW := hbW.size
    have hXW2 := below_chain hXW hbW hXW.size
    have hlet : ∀ wr, W2.grownBy wr (some u1.heap.size) → Lets wr A n1 L := fun wr hg => hA.below (below_chain hbx2.below (below_of_only hg (B := w.heap.size) (by omega) (by omega)) (Nat.le_refl _))
    have hlet2 : ∀ wr, W2.grownBy wr (some u1.heap.size) → Lets wr A2 n1 (backL L) := fun wr hg => Lets.growG hg (fun a e h => by have := (hA2.row.lt a.block (by rw [e]; rfl)).1; injection h with h; omega) hA2.lets
    have hcase : ∀ j : Nat, j < 2 → ∃ Aj cj Xj, (∀ wr, W2.grownBy wr (some u1.heap.size) → wr.cell? ⟨g, j * 2, none⟩ = some (.int .i64 K) ∧ wr.cell? ⟨g, j * 2 + 1, none⟩ = some (.slice Aj n1 cj) ∧ Lets wr Aj n1 Xj) ∧ n1 ≤ cj ∧ seqC L j n1 = seqC L (j + 1) 0 ∧ (∀ i, seqC L j i = seqC L j 0 ++ cndT Xj i) := by
      intro j hj
      rcases (show j = 0 ∨ j = 1 by omega) with rfl | rfl
      · refine ⟨A, c, L, fun wr hg => ?_, hc, ?_, fun i => ?_⟩
        · have hB := hbG.grown hg (by simp; omega)
          exact ⟨(hB.cell 0).trans rfl, (hB.cell 1).trans rfl, hlet wr hg⟩
        · show cndT L n1 = cndT L L.length ++ cndT (backL L) 0
          rw [hLn.out]; simp [cndT]
        · show cndT L i = cndT L 0 ++ cndT L i
          simp [cndT]
      · refine ⟨A2, c2, backL L, fun wr hg => ?_, hc2, ?_, fun i => ?_⟩
        · have hB := hbG.grown hg (by simp; omega)
          exact ⟨(hB.cell 2).trans rfl, (hB.cell 3).trans rfl, hlet2 wr hg⟩
        · show cndT L L.length ++ cndT (backL L) n1 = cndT L L.length ++ cndT (backL L) (backL L).length
          rw [HBK.out]
        · show cndT L L.length ++ cndT (backL L) i = cndT L L.length ++ cndT (backL L) 0 ++ cndT (backL L) i
          simp [cndT]
    have HC := Lib.hid hcase
    clear hcase hbG hA2 hc2 hlet hlet2 hI0 hI1 hbx1 hR1 c0 c1' HCL KP KA hbW
    go_wp2_with fail
    go_loopw [5, 6, 7, 8] (fun v5 _ _ _ wr => ∃ (j : Nat) (B : Option Addr) (cB : Nat), j ≤ 2 ∧ v5 = .int .i64 j ∧ NorI X W2 wr u1.heap.size K B n1 cB (bestN L j 0)) (fun v5 _ _ _ _ => 2 - (intOf v5).toNat)
    case atStart => exact ⟨0, A1, c1, by omega, rfl, hI2⟩
    case round =>
      obtain ⟨j, B, cB, hj, rfl, hI⟩ := hrel
      clear hI2
      by_cases hlt : j < 2
      · obtain ⟨Aj, cj, Xj, hall, hcj, hnext, hsplit⟩ := HC.out j hlt
        obtain ⟨cc0, cc1, hLj⟩ := hall wr hI.old
        have HALL := Lib.hid hall
        have j0 : (0 : Int) ≤ (j : Int) := by omega
        have j1 : (j : Int) < 2 := by omega
        have HN := Lib.hid hnext
        have HSP := Lib.hid hsplit
        clear hnext hsplit hall
        go_upto_region 7 with fail
        have hIx := hI.next ((Below.refl _ _).alloc (Nat.le_refl _) (.cells #[.int .i64 K, .slice Aj n1 cj] 24))
        have hXk := Blk.new wr 24 #[.int .i64 K, .slice Aj n1 cj]
        have hxs : u1.heap.size < wr.heap.size := by have := hI.old.size; omega
        generalize wr.alloc (.cells #[.int .i64 K, .slice Aj n1 cj] 24) = Wx at hIx hXk ⊢
        have hIy : NorI X Wx Wx u1.heap.size K B n1 cB (bestN L j 0) := ⟨hIx.bk, hIx.own, hIx.far, World.grownBy.refl _ _⟩
        have hox := hIx.old
        clear hI cc0 cc1 hLj hIx
        obtain ⟨wo, rfl⟩ : ∃ wo : World, wo = wr := ⟨_, rfl⟩
        go_wp2_with fail
        go_loopw [7, 8] (fun v7 _ wi => ∃ (i : Nat) (B : Option Addr) (cB : Nat), i ≤ n1 ∧ v7 = .int .i64 i ∧ NorI X Wx wi u1.heap.size K B n1 cB (bestN L j i)) (fun v7 _ _ => n1 - (intOf v7).toNat)
        case atStart => exact ⟨0, B, cB, by omega, rfl, hIy⟩
        case round =>
          obtain ⟨i, B, cB, hi, rfl, hI⟩ := hrel
          clear hIy
          have hXi := hXk.grown hI.old (by simp; omega)
          have p0 : wr.cell? ⟨wo.heap.size, 0, none⟩ = some (.int .i64 K) := (hXi.cell 0).trans rfl
          have p1 : wr.cell? ⟨wo.heap.size, 1, none⟩ = some (.slice Aj n1 cj) := (hXi.cell 1).trans rfl
          have hLi := (HALL.out wr (only_trans hox hI.old)).2.2
          have hszi := hI.old.size
          have hlx := hXk.lt
          by_cases hli : i < n1
          · obtain ⟨ga, oa, rfl, hga, hxa, hok⟩ := hLi.at_ hli
            obtain ⟨y0, y1, y2, y3, y4, y5⟩ := hxa
            have i0 : (0 : Int) ≤ (i : Int) := by omega
            have i1 : (i : Int) < (n1 : Int) := by omega
            clear hok
            by_cases hk1 : (la Xj i).kind = 1
            · have q1 : ((la Xj i).kind == 1) = true := by simpa using hk1
              have HP := Lib.hid (isP_t hk1)
              clear hk1
              obtain ⟨dn, hdn⟩ : ∃ dn, dwn Xj i = dn := ⟨_, rfl⟩
              have HDN := Lib.hid hdn
              clear hdn
              cases dn with
              | false =>
                have HSQ := Lib.hid (show bestN L j i = bestN L j (i + 1) by unfold bestN; rw [HSP.out i, HSP.out (i + 1), cnd_no (by rw [HDN.out]; simp)])
                go_wp2_with fail
                refine (cref_Down_at K i _ n1 cj Xj false HDN.out _ hLi (by omega)).mono ?_
                rintro e wD ⟨rfl, hbD⟩
                have hId := hI.next hbD
                rw [HSQ.out] at hId
                go_wp2_with fail
                go_roundw
                case rel => exact ⟨i + 1, B, cB, by omega, by go_num, hId⟩
                case measure => simp [intOf]; omega
              | true =>
                have HSQ := Lib.hid (show bestN L j (i + 1) = pick (bestN L j i) (renL (rotT Xj i)) by
                  unfold bestN
                  rw [HSP.out (i + 1), cnd_yes (by rw [HP.out, HDN.out]; rfl), ← List.append_assoc, ← HSP.out i, List.foldl_append]; rfl)
                go_wp2_with fail
                refine (cref_Down_at K i _ n1 cj Xj true HDN.out _ hLi (by omega)).mono ?_
                rintro e wD ⟨rfl, hbD⟩
                have hId := hI.next hbD
                have hLd := hLi.below hbD
                have hXd := hXi.below hbD hXi.lt
                have s0 : wD.cell? ⟨wo.heap.size, 0, none⟩ = some (.int .i64 K) := (hXd.cell 0).trans rfl
                have s1 : wD.cell? ⟨wo.heap.size, 1, none⟩ = some (.slice (some ⟨ga, oa, none⟩) n1 cj) := (hXd.cell 1).trans rfl
                clear hI hLi hXi p0 p1 y0 y1 y2 y3 y4 y5 hga hbD hXd
                go_wp2_with fail
                refine (cref_Start K i _ n1 cj Xj _ hLd hcj hli).mono ?_
                rintro e w5 ⟨A5, n5, c5, rfl, hL5, hb5⟩
                obtain rfl : n5 = n1 := by rw [← hL5.len, rot_len]; exact hLd.len
                have hI5 := hId.next hb5
                clear hId hLd s0 s1
                go_wp2_with fail
                refine (cref_Rename K A5 n5 c5 _ w5 hL5.lets (by omega)).mono ?_
                rintro e w6 ⟨A6, n6, c6, rfl, hL6, hb6⟩
                obtain rfl : n6 = n5 := by rw [← hL6.len, ren_len]; exact hL5.len
                have hs5 := hb5.size
                have hs6 := hb6.size
                have hI6 := (hI5.next hb6).next ((Below.refl _ _).alloc (Nat.le_refl _) (.cells #[.int .i64 K, .slice A6 n6 c6] 24))
                have hY6 := Blk.new w6 24 #[.int .i64 K, .slice A6 n6 c6]
                have hL7 := hL6.alloc (.cells #[.int .i64 K, .slice A6 n6 c6] 24)
                have hos := hI5.old.size
                have HF6 := Lib.hid (show blk A6 ≠ some u1.heap.size from fun e => by have := (hL6.row.lt _ e).1; omega)
                clear hI5 hL5 hb5 hL6 hb6
                go_upto_region 12 with fail
                generalize hW7 : w6.alloc (.cells #[.int .i64 K, .slice A6 n6 c6] 24) = W7 at hI6 hY6 hL7 ⊢
                clear hW7
                have t0 : W7.cell? ⟨w6.heap.size, 0, none⟩ = some (.int .i64 K) := (hY6.cell 0).trans rfl
                have t1 : W7.cell? ⟨w6.heap.size, 1, none⟩ = some (.slice A6 n6 c6) := (hY6.cell 1).trans rfl
                have t2 : W7.cell? ⟨u1.heap.size, 0, none⟩ = some (.int .i64 K) := (hI6.bk.cell 0).trans rfl
                have t3 : W7.cell? ⟨u1.heap.size, 1, none⟩ = some (.slice B n6 cB) := (hI6.bk.cell 1).trans rfl
                obtain ⟨R, hR⟩ : ∃ R, bfB (renL (rotT Xj i)) (bestN L j i) = R := ⟨_, rfl⟩
                have hls := cref_Less K K A6 B n6 c6 cB _ _ W7 hL7.lets hI6.own.lets
                rw [hR] at hls
                have HLS := Lib.hid hls
                have HR := Lib.hid hR
                clear hls hR
                go_wp2_with fail
                refine HLS.out.mono ?_
                rintro e w8 ⟨rfl, hb8⟩
                have hI8 := hI6.next hb8
                have hY8 := hY6.below hb8 hY6.lt
                have hL8 := hL7.next hb8
                clear hI6 hY6 hL7 t0 t1 t2 t3
                cases R with
                | true =>
                  have HP1 := Lib.hid (show bestN L j (i + 1) = renL (rotT Xj i) by rw [HSQ.out]; unfold pick; rw [if_pos HR.out])
                  have t0 : w8.cell? ⟨w6.heap.size, 0, none⟩ = some (.int .i64 K) := (hY8.cell 0).trans rfl
                  have t1 : w8.cell? ⟨w6.heap.size, 1, none⟩ = some (.slice A6 n6 c6) := (hY8.cell 1).trans rfl
                  have t2 : w8.cell? ⟨u1.heap.size, 0, none⟩ = some (.int .i64 K) := (hI8.bk.cell 0).trans rfl
                  have t3 : w8.cell? ⟨u1.heap.size, 1, none⟩ = some (.slice B n6 cB) := (hI8.bk.cell 1).trans rfl
                  have t4 := hI8.bk.frozen 0
                  have t5 := hI8.bk.frozen 1
                  have hI9 := hI8.take (K' := K) (hL8.mono (show X.heap.size ≤ w5.heap.size by omega)) HF6.out
                  rw [← HP1.out] at hI9
                  clear hI8 hY8 hL8
                  go_wp2_with fail
                  go_roundw
                  case rel => exact ⟨i + 1, A6, c6, by omega, by go_num, hI9⟩
                  case measure => simp [intOf]; omega
                | false =>
                  have HP1 := Lib.hid (show bestN L j i = bestN L j (i + 1) by rw [HSQ.out]; unfold pick; rw [if_neg (by rw [HR.out]; simp)])
                  rw [HP1.out] at hI8
                  clear hY8 hL8
                  go_wp2_with fail
                  go_roundw
                  case rel => exact ⟨i + 1, B, cB, by omega, by go_num, hI8⟩
                  case measure => simp [intOf]; omega
            · have q1 : ((la Xj i).kind == 1) = false := by simpa using hk1
              have HSQ := Lib.hid (show bestN L j i = bestN L j (i + 1) by unfold bestN; rw [HSP.out i, HSP.out (i + 1), cnd_no (by rw [isP_f hk1]; rfl)])
              clear hk1
              rw [HSQ.out] at hI
              go_wp2_with fail
              go_roundw
              case rel => exact ⟨i + 1, B, cB, by omega, by go_num, hI⟩
              case measure => simp [intOf]; omega
          · have hin : i = n1 := by omega
            have hn := HN.out
            rw [← hin] at hn
            have hIe : NorI X W2 wr u1.heap.size K B n1 cB (bestN L (j + 1) 0) := by
              have e1 : bestN L j i = bestN L (j + 1) 0 := by unfold bestN; rw [hn]
              rw [← e1]
              exact ⟨hI.bk, hI.own, hI.far, only_trans hox hI.old⟩
            have i1 : ¬ (i : Int) < (n1 : Int) := by omega
            clear hn hin hI
            go_wp2_with fail
            go_roundw
            case rel => exact ⟨j + 1, B, cB, by omega, by go_num, hIe⟩
            case measure => simp [intOf]; omega
      · have hj2 : j = 2 := by omega
        subst hj2
        have hbr := below_of_only hI.old (B := u1.heap.size) (Nat.le_refl _) (by omega)
        have hbxw := hR2.below hbr (by omega)
        have hbXr : Below X.heap.size X wr := below_chain hXW2 hbr hsz1
        have t2 : wr.cell? ⟨u1.heap.size, 0, none⟩ = some (.int .i64 K) := (hI.bk.cell 0).trans rfl
        have t3 : wr.cell? ⟨u1.heap.size, 1, none⟩ = some (.slice B n1 cB) := (hI.bk.cell 1).trans rfl
        have r0 : wr.cell? ⟨w.heap.size + 1, 0, none⟩ = some (.int .i64 0) := (hbxw.cell 0).trans rfl
        have r1 : wr.cell? ⟨w.heap.size + 1, 1, none⟩ = some (.slice none 0 0) := (hbxw.cell 1).trans rfl
        have g0 := hbxw.frozen 0
        have g1 := hbxw.frozen 1
        have hown := hI.own
        have hG := copy_ends (w := w) (X := X) (K := K) hbxw hbXr hwX hX hown
        clear hbxw hI
        go_wp2_with fail
        (try simp only [Exit.inBlock, Exit.then])
        refine ret_cellB rfl rfl hG.1 Tryd.underlying24 rfl (by kernel_rfl) rfl ?_
        exact ⟨B, n1, cB, rfl, hG.2.1, hG.2.2⟩
end

section
open Go.RowKit
set_option maxRecDepth 100000 in
set_option maxHeartbeats 6400000 in
theorem cref_Same (K1 K2 : Int) (A B : Option Addr) (n c m d : Nat) (L M : List Lt) (w : World) (hA : Lets w A n L) (hB : Lets w B m M) (hc : n ≤ c) (hd : m ≤ d) (h1 : checkE K1 L = 0) (h2 : checkE K2 M = 0) :
    Calls Tryd.prog 54 #[.agg #[.int .i64 K1, .slice A n c], .agg #[.int .i64 K2, .slice B m d]] w fun e w' => e = .returned (.bool (K1 == K2 && decide (normL L = normL M))) ∧ Below w.heap.size w w' := by
  have hb2 : Below w.heap.size w ((w.alloc (.cells #[.int .i64 K1, .slice A n c] 24)).alloc (.cells #[.int .i64 K2, .slice B m d] 24)) := ((Below.refl _ _).alloc (Nat.le_refl _) _).alloc (by simp) _
  have bB : Blk ((w.alloc (.cells #[.int .i64 K1, .slice A n c] 24)).alloc (.cells #[.int .i64 K2, .slice B m d] 24)) (w.heap.size + 1) 24 #[.int .i64 K2, .slice B m d] := heap_alloc2_new w _ _
  have bA := (Blk.new w 24 #[.int .i64 K1, .slice A n c]).alloc (.cells #[.int .i64 K2, .slice B m d] 24)
  go_enter Tryd.func54, Tryd.ntmps54
  go_upto_region 1 with fail
  generalize (w.alloc (.cells #[.int .i64 K1, .slice A n c] 24)).alloc (.cells #[.int .i64 K2, .slice B m d] 24) = X at hb2 bB bA ⊢
  have k0 : ∀ wx, Below X.heap.size X wx → (Below X.heap.size X wx ∧ wx.cell? ⟨w.heap.size, 0, none⟩ = some (.int .i64 K1) ∧ wx.cell? ⟨w.heap.size, 1, none⟩ = some (.slice A n c) ∧ wx.cell? ⟨w.heap.size + 1, 0, none⟩ = some (.int .i64 K2) ∧ wx.cell? ⟨w.heap.size + 1, 1, none⟩ = some (.slice B m d)) := fun wx h =>
    ⟨h, ((bA.below h bA.lt).cell 0).trans rfl, ((bA.below h bA.lt).cell 1).trans rfl, ((bB.below h bB.lt).cell 0).trans rfl, ((bB.below h bB.lt).cell 1).trans rfl⟩
  have k1 : ∀ wx, Below X.heap.size X wx → Calls Tryd.prog 51 #[.agg #[.int .i64 K1, .slice A n c]] wx (GivesC wx K1 (normL L)) := fun wx h => cref_Normal K1 A n c L wx (hA.below (below_chain hb2 h hb2.size)) hc h1
  have k2 : ∀ wx, Below X.heap.size X wx → Calls Tryd.prog 51 #[.agg #[.int .i64 K2, .slice B m d]] wx (GivesC wx K2 (normL M)) := fun wx h => cref_Normal K2 B m d M wx (hB.below (below_chain hb2 h hb2.size)) hd h2
  have k3 : ∀ wx A1 n1 c1 A2 n2 c2, Lets wx A1 n1 (normL L) → Lets wx A2 n2 (normL M) → Calls Tryd.prog 34 #[.agg #[.int .i64 K1, .slice A1 n1 c1], .agg #[.int .i64 K2, .slice A2 n2 c2]] wx fun e w' => e = .returned (.bool (K1 == K2 && decide (normL L = normL M))) ∧ Below wx.heap.size wx w' := fun wx A1 n1 c1 A2 n2 c2 h3 h4 => cref_Equal K1 K2 A1 A2 n1 c1 n2 c2 _ _ wx h3 h4
  have r1 := ((bA.cell 0).trans rfl : X.cell? ⟨w.heap.size, 0, none⟩ = some (.int .i64 K1))
  have r2 := ((bA.cell 1).trans rfl : X.cell? ⟨w.heap.size, 1, none⟩ = some (.slice A n c))
  have r3 := ((bB.cell 0).trans rfl : X.cell? ⟨w.heap.size + 1, 0, none⟩ = some (.int .i64 K2))
  have r4 := ((bB.cell 1).trans rfl : X.cell? ⟨w.heap.size + 1, 1, none⟩ = some (.slice B m d))
  have KP := Lib.hid k0
  have K1' := Lib.hid k1
  have K2' := Lib.hid k2
  have K3 := Lib.hid k3
  clear k0 k1 k2 k3 h1 h2
  first
    | go_region_held3 (fun wx => Below X.heap.size X wx ∧ wx.cell? ⟨w.heap.size, 0, none⟩ = some (.int .i64 K1) ∧ wx.cell? ⟨w.heap.size, 1, none⟩ = some (.slice A n c) ∧ wx.cell? ⟨w.heap.size + 1, 0, none⟩ = some (.int .i64 K2) ∧ wx.cell? ⟨w.heap.size + 1, 1, none⟩ = some (.slice B m d)) (first | assumption | exact KP.out _ (Below.refl _ _).drew | exact KP.out _ (below_chain (And.left (by assumption)) (by assumption) (Below.size (And.left (by assumption)))))
        (first
          | ((go_at_call 51; (with_reducible refine (K1'.out _ (And.left (by assumption))).mono ?_); rintro e q1 ⟨A1, n1, c1, rfl, hN1, hz1⟩))
          | ((go_at_call 51; (with_reducible refine (K2'.out _ (And.left (by assumption))).mono ?_); rintro e q2 ⟨A2, n2, c2, rfl, hN2, hz2⟩))
          | ((go_at_call 34; (with_reducible refine (K3.out _ _ _ _ _ _ _ (hN1.lets.below hz2) hN2.lets).mono ?_); rintro e q3 ⟨rfl, hz3⟩))
          | ((go_at_call 34; (with_reducible refine (K3.out _ _ _ _ _ _ _ hN1.lets (hN2.lets.below hz1)).mono ?_); rintro e q3 ⟨rfl, hz3⟩)))
    | fail
  all_goals
    have hbf := And.left (show Below X.heap.size X _ ∧ _ by assumption)
    go_wp2_with fail
    go_ret
    exact ⟨rfl, below_chain hb2 hbf (by have := hb2.size; omega)⟩
end
end Go.Proofs.YtkjcmppaapbabaaDoor
