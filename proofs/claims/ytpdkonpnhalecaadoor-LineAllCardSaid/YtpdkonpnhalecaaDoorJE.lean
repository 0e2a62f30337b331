/-
  Lists of words that the call itself has made; contract of the document's grow and Words. Conditions: few fingers, short words.
  The program's iterators over words: contracts of begun and of what it returns. Conditions: few fingers, short words.
-/
import Derived.Test.YtpdkonpnhalecaaDoorQ2
import Derived.Test.YtpdkonpnhalecaaDoorD1
import Derived.Test.YtpdkonpnhalecaaDoorP16
import Derived.Test.YtpdkonpnhalecaaDoorI1
import Derived.Shelf.Abstract
import Derived.Shelf.RegionOpen
import Derived.WalkKit
import Derived.OwnWalkIn
import Derived.TacticsInMore
import Derived.LoopNIn
import Derived.LoopIn
namespace Go.Proofs.YtpdkonpnhalecaaDoor
section
open Go.RowKit
/-- A slice as a value. -/
structure SW where
  A : Option Addr
  n : Nat
  c : Nat
def SW.val (v : SW) : Value := .slice v.A v.n v.c
/-- A slice of slices of ints, all of the call's own. -/
structure Wl (w : World) (base : Nat) (A : Option Addr) (n c : Nat) (vs : List SW) (Ws : List (List Int)) : Prop where
  row : Row w base 1 A n c (vs.map SW.val)
  len : Ws.length = n
  each : ∀ (j : Nat) (v : SW) (W : List Int), vs[j]? = some v → Ws[j]? = some W → Ints w v.A v.n W ∧ v.n ≤ v.c ∧ ∀ k, blk v.A = some k → base ≤ k ∧ k < w.heap.size ∧ blk A ≠ some k
section
variable {w w' : World} {base : Nat} {A : Option Addr} {n c : Nat} {vs : List SW} {Ws : List (List Int)}
theorem Wl.vlen (h : Wl w base A n c vs Ws) : vs.length = n := by have := h.row.len; simpa using this
theorem Wl.nil (w : World) (base : Nat) : Wl w base none 0 0 [] [] := ⟨Row.none_ _ _ _, rfl, by simp⟩
theorem Wl.below (h : Wl w base A n c vs Ws) (hb : Below w.heap.size w w') : Wl w' base A n c vs Ws :=
  ⟨h.row.below hb, h.len, fun j v W hv hW => by obtain ⟨h1, h2, h3⟩ := h.each j v W hv hW; exact ⟨h1.below hb, h2, fun k hk => ⟨(h3 k hk).1, Nat.lt_of_lt_of_le (h3 k hk).2.1 hb.size, (h3 k hk).2.2⟩⟩⟩
theorem Ints.growW {w w' : World} {n : Nat} {L : List Int} {row : Option Nat} {A : Option Addr} (hg : w.grownBy w' row) (hne : ∀ k, blk A = some k → row ≠ some k) (h : Ints w A n L) : Ints w' A n L := by
  refine ⟨h.len, h.le, h.fits, fun hn => ?_⟩
  obtain ⟨ad, rfl, hlt, hc⟩ := h.2.2.2 hn
  have hb : w'.heap[ad.block]? = w.heap[ad.block]? := hg.block _ hlt (fun e => hne ad.block rfl e.symm)
  refine ⟨ad, rfl, Nat.lt_of_lt_of_le hlt hg.size, fun k x hx => ?_⟩
  have := hc k x hx
  rw [← this]
  refine World.cell?_of_block (w := w) (w' := w') ?_
  rw [block_of_add]
  exact hb
/-- One slice more. -/
theorem Wl.push {A' : Option Addr} {n' c' : Nat} {v : SW} {W : List Int} (h : Wl w base A n c vs Ws) (hr : Row w' base 1 A' n' c' ((vs ++ [v]).map SW.val)) (hn : n + 1 = n') (hg : w.grownBy w' (blk A)) (hA : ∀ k, blk A' = some k → blk A = some k ∨ w.heap.size ≤ k)
    (hv : Ints w v.A v.n W) (hvc : v.n ≤ v.c) (hb : ∀ k, blk v.A = some k → base ≤ k ∧ k < w.heap.size ∧ blk A ≠ some k) : Wl w' base A' n' c' (vs ++ [v]) (Ws ++ [W]) := by
  refine ⟨hr, by simp [h.len, hn], fun j x X hx hX => ?_⟩
  have key : ∀ (x : SW) (X : List Int), Ints w x.A x.n X → (∀ k, blk x.A = some k → base ≤ k ∧ k < w.heap.size ∧ blk A ≠ some k) → Ints w' x.A x.n X ∧ ∀ k, blk x.A = some k → base ≤ k ∧ k < w'.heap.size ∧ blk A' ≠ some k := by
    intro x X hI hk
    refine ⟨hI.growW hg (fun k hk2 => (hk k hk2).2.2), fun k hk' => ?_⟩
    obtain ⟨k1, k2, k3⟩ := hk k hk'
    refine ⟨k1, Nat.lt_of_lt_of_le k2 hg.size, fun e => ?_⟩
    rcases hA k e with h | h
    · exact k3 h
    · omega
  by_cases hj : j < vs.length
  · rw [List.getElem?_append_left hj] at hx
    rw [List.getElem?_append_left (by have := h.len; have := h.vlen; omega)] at hX
    obtain ⟨h1, h2, h3⟩ := h.each j x X hx hX
    obtain ⟨k1, k2⟩ := key x X h1 h3
    exact ⟨k1, h2, k2⟩
  · rw [List.getElem?_append_right (by omega)] at hx
    rw [List.getElem?_append_right (by have := h.len; have := h.vlen; omega)] at hX
    have e1 : j - vs.length = 0 := by
      rcases Nat.eq_zero_or_pos (j - vs.length) with h0 | h0
      · exact h0
      · rw [List.getElem?_eq_none (by simp; omega)] at hx; cases hx
    have e2 : j - Ws.length = 0 := by have := h.len; have := h.vlen; omega
    rw [e1] at hx
    rw [e2] at hX
    simp at hx hX
    subst hx; subst hX
    obtain ⟨k1, k2⟩ := key v W hv hb
    exact ⟨k1, hvc, k2⟩
end
theorem wordsInfo : (Tryd.prog.info? 28).map (fun i => (i.zero, i.size, i.bytes)) = some (some (.slice none 0 0), 1, 24) := by kernel_rfl
theorem pushW {w : World} {ops : Array Oper} {rest : List Oper} {o : Oper} {a : Act} {Q : Exit → Act → World → Prop} (hgd : o.guard = none) (s x : Operand)
    (ho : o.op = .call { callee := .builtin .append, args := #[s, x], argTypes := #[26, 26] })
    {base : Nat} {A : Option Addr} {n c : Nat} {vs : List SW} {Ws : List (List Int)} (hst : Wl w base A n c vs Ws) (v : SW) (W : List Int) (hv : Ints w v.A v.n W) (hvc : v.n ≤ v.c) (hb : ∀ k, blk v.A = some k → base ≤ k ∧ k < w.heap.size ∧ blk A ≠ some k)
    (hs : a.eval s = .slice A n c) (hx : a.eval x = .slice (some ⟨w.heap.size, 0, none⟩) 1 1) (N : Nat) (hN : n + 1 = N) (hn : N ≤ 1000000) (hbase : base ≤ w.heap.size)
    (h : ∀ A' c' w', Wl w' base A' N c' (vs ++ [v]) (Ws ++ [W]) → Below base w w' → w.grownBy w' (blk A) → (∀ k, blk A' = some k → blk A = some k ∨ w.heap.size ≤ k) → wpList Tryd.prog ops Q rest (a.put o.dst (.slice A' N c')) w') :
    wpList Tryd.prog ops Q (o :: rest) a (w.alloc (.cells #[v.val] 28)) := by
  obtain ⟨i0, hi, hz0, hz1, hz2⟩ := info_parts wordsInfo
  have hbl := (Below.refl w.heap.size w).alloc (Nat.le_refl _) (.cells #[v.val] 28)
  have hst1 := hst.below hbl
  refine appR hgd s x 26 ho 28 i0 _ 1 24 Tryd.underlying26 hi hz0 hz1 hz2 rfl (by decide) hst1.row (Src.new (m := 1) (cs := [v.val]) rfl)
    (by intro u hu; simp at hu; subst hu; rfl) hs hx N hN (by unfold maxLen; omega) (by omega) (by simp; omega) ?_
  intro A' c' w' h1 h2 h3 _
  refine h A' c' w' (hst1.push (by rw [List.map_append]; exact h1) hN h2 h3 (hv.below hbl) hvc (fun k hk => ⟨(hb k hk).1, by have := (hb k hk).2.1; simp; omega, (hb k hk).2.2⟩)) ?_ ?_ ?_
  · exact ((Below.refl _ _).alloc hbase _).trans (hst1.row.belowOf h2 (by simp; omega))
  · exact ⟨h2.os, h2.tape, h2.output, Nat.le_trans hbl.size h2.size, fun k hk hne => (h2.block k (Nat.lt_of_lt_of_le hk hbl.size) hne).trans (hbl.block k hk)⟩
  · intro k hk
    rcases h3 k hk with e | e
    · exact .inl e
    · exact .inr (Nat.le_trans hbl.size e)
/-- The words that the document keeps. -/
def keepW (M : List Int) : Bool := redB M && (normalL M == M)
def grown (K d : Nat) (L : List Int) : List (List Int) := (allW K d L).filter keepW
theorem grown_zero (K : Nat) (L : List Int) : grown K 0 L = if keepW L then [L] else [] := by
  unfold grown allW
  cases h : keepW L <;> simp [h]
theorem grown_succ (K d : Nat) (L : List Int) : grown K (d + 1) L = (List.range (K + 1)).flatMap fun (g : Nat) => grown K d (L ++ [(g : Int)]) := by
  unfold grown
  rw [allW, List.filter_flatMap]
/-- What has come of the letters below g. -/
def grownTo (K d : Nat) (L : List Int) (g : Nat) : List (List Int) := (List.range g).flatMap fun (g : Nat) => grown K d (L ++ [(g : Int)])
theorem grownTo_zero (K d : Nat) (L : List Int) : grownTo K d L 0 = [] := rfl
theorem grownTo_succ (K d : Nat) (L : List Int) (g : Nat) : grownTo K d L (g + 1) = grownTo K d L g ++ grown K d (L ++ [(g : Int)]) := by
  unfold grownTo
  rw [List.range_succ, List.flatMap_append]
  simp
theorem grownTo_all (K d : Nat) (L : List Int) : grownTo K d L (K + 1) = grown K (d + 1) L := (grown_succ K d L).symm
theorem grownTo_len (K d : Nat) (L : List Int) {g : Nat} (hg : g ≤ K) : (grownTo K d L (g + 1)).length ≤ (grown K (d + 1) L).length := by
  rw [← grownTo_all]
  have : ∀ j, (grownTo K d L (g + 1)).length ≤ (grownTo K d L (g + 1 + j)).length := fun j => by
    induction j with
    | zero => exact Nat.le_refl _
    | succ j ih =>
      have h2 := grownTo_succ K d L (g + 1 + j)
      rw [show g + 1 + (j + 1) = (g + 1 + j) + 1 by omega, h2, List.length_append]
      omega
  have h := this (K - g)
  rwa [show g + 1 + (K - g) = K + 1 by omega] at h
theorem in40_snoc {L : List Int} {g : Nat} (h : ∀ x ∈ L, 0 ≤ x ∧ x ≤ 40) (hg : g ≤ 40) : ∀ x ∈ L ++ [(g : Int)], 0 ≤ x ∧ x ≤ 40 := by
  intro x hx
  rcases List.mem_append.1 hx with hx | hx
  · exact h x hx
  · simp at hx; subst hx; omega
theorem word_of40 {L : List Int} (h : ∀ x ∈ L, 0 ≤ x ∧ x ≤ 40) (he : L.length % 2 = 0) (hl : L.length ≤ 400) : wordB L = true := by
  unfold wordB
  simp only [Bool.and_eq_true, decide_eq_true_eq, List.all_eq_true]
  exact ⟨⟨he, hl⟩, fun x hx => inB_yes (h x hx).1 (h x hx).2⟩
theorem ref_reduced_b {b : Bool} {L : List Int} (h : redB L = b) (A : Option Addr) (n c : Nat) (w : World) (hA : Ints w A n L) :
    Calls Tryd.prog 38 #[.slice A n c] w fun e w' => e = .returned (.bool b) ∧ Drawn w w' := by
  subst h
  exact ref_reduced A n c L w hA
/-- A list of words is returned. -/
def GivesW (w : World) (base : Nat) (bB : Option Nat) (N : Nat) (P : List (List Int)) (e : Ending) (w' : World) : Prop :=
  ∃ B' cq' vs', e = .returned (.slice B' N cq') ∧ Wl w' base B' N cq' vs' P ∧ Below base w w' ∧ w.grownBy w' bB ∧ ∀ k, blk B' = some k → bB = some k ∨ w.heap.size ≤ k
theorem givesW_as {w w' : World} {base N N' : Nat} {bB : Option Nat} {P P' : List (List Int)} {e : Ending} (h : GivesW w base bB N P e w') (hN : N' = N) (hP : P' = P) : GivesW w base bB N' P' e w' := by
  subst hN hP
  exact h
/-- Steps that turn one block and make new ones. -/
theorem grown_below {a b : World} {row : Option Nat} (h : Below a.heap.size a b) : a.grownBy b row := ⟨h.os, h.tape, h.output, h.size, fun k hk _ => h.block k hk⟩
theorem grown_next {a b c : World} {r r' : Option Nat} (h : a.grownBy b r) (k : b.grownBy c r') (hr : ∀ i, r' = some i → r = some i ∨ a.heap.size ≤ i) : a.grownBy c r :=
  ⟨k.os.trans h.os, k.tape.trans h.tape, k.output.trans h.output, Nat.le_trans h.size k.size, fun i hi hne => (k.block i (Nat.lt_of_lt_of_le hi h.size) (fun e => by
    rcases hr i e.symm with e2 | e2
    · exact hne e2.symm
    · omega)).trans (h.block i hi hne)⟩
set_option maxHeartbeats 3200000 in
theorem ref_grow (K n : Nat) (hK : K ≤ 40) (hn : n ≤ 400) (he : n % 2 = 0) : ∀ (d : Nat) (L : List Int) (A : Option Addr) (m c : Nat) (B : Option Addr) (q cq : Nat) (vs : List SW) (Ws : List (List Int)) (base : Nat) (w : World),
    m + d = n → Ints w A m L → m ≤ c → (∀ x ∈ L, 0 ≤ x ∧ x ≤ 40) → Wl w base B q cq vs Ws → base ≤ w.heap.size → (∀ k, blk A = some k → base ≤ k ∧ k < w.heap.size ∧ blk B ≠ some k) → q + (grown K d L).length ≤ 100000 →
    Calls Tryd.prog 23 #[.int .i64 (K : Int), .int .i64 (n : Int), .slice A m c, .slice B q cq] w (GivesW w base (blk B) (q + (grown K d L).length) (Ws ++ grown K d L)) := by
  intro d
  induction d with
  | zero =>
    intro L A m c B q cq vs Ws base w hmd hA hmc h40 hW hbase hAB hN
    obtain rfl : m = n := by omega
    have hlen := hA.len
    have t0 : ((m : Int) == (m : Int)) = true := beq_self_eq_true _
    have HA := Lib.hid hAB
    have hword := word_of40 h40 (by rw [hlen]; exact he) (by rw [hlen]; exact hn)
    have HWD := Lib.hid hword
    rw [grown_zero] at hN ⊢
    rcases Bool.eq_false_or_eq_true (redB L) with hr | hr
    · by_cases hnl : normalL L = L
      · have hk : keepW L = true := by unfold keepW; rw [hr, hnl]; simp
        rw [hk, if_pos rfl] at hN ⊢
        have HR := Lib.hid hr
        have HNL := Lib.hid hnl
        simp only [List.length_cons, List.length_nil, Nat.zero_add] at hN ⊢
        clear hr hnl hk hlen hAB hword
        go_enter Tryd.func23, Tryd.ntmps23
        go_wp2_with fail
        refine (ref_reduced_b HR.out _ _ _ _ hA).mono ?_
        rintro e w1 ⟨rfl, hd1⟩
        have hA1 := hA.drawn hd1
        have hW1 := hW.below (hd1.below _)
        have hb1 : Below w.heap.size w w1 := hd1.below _
        clear hd1
        go_wp2_with fail
        refine (ref_normal _ _ _ _ _ hA1 hmc HWD.out).mono ?_
        rintro e w2 ⟨X, mX, cX, rfl, hX, hb2⟩
        have hA2 := hA1.below hb2
        have hW2 := hW1.below hb2
        have hb3 := below_chain hb1 hb2 hb1.size
        rw [HNL.out] at hX
        clear hA1 hW1 hb1 hb2
        go_wp2_with fail
        refine (ref_equal _ _ _ _ _ _ _ _ _ hX hA2).mono ?_
        have hself : (L == L) = true := beq_self_eq_true L
        rw [hself]
        clear hself
        rintro e w3 ⟨rfl, hd3⟩
        have hA3 := hA2.drawn hd3
        have hW3 := hW2.below (hd3.below _)
        have hb4 : Below w.heap.size w w3 := hb3.trans (hd3.below _)
        have hs4 := hb4.size
        clear hA2 hW2 hb3 hd3 hX
        go_wp2_with (at_builtin; refine pushW rfl _ _ rfl hW3 ⟨A, m, c⟩ L hA3 hmc (fun k hk => ⟨(HA.out k hk).1, Nat.lt_of_lt_of_le (HA.out k hk).2.1 hs4, (HA.out k hk).2.2⟩) rfl rfl (q + 1) rfl (by omega) (Nat.le_trans hbase hs4) ?_)
        intro B' c' w4 hW4 hb5 hg5 hl5
        have hb6 := (hb4.mono hbase).trans hb5
        have hg6 := grown_next (grown_below (row := blk B) hb4) hg5 (fun k hk => .inl hk)
        have hl6 : ∀ k, blk B' = some k → blk B = some k ∨ w.heap.size ≤ k := fun k hk => (hl5 k hk).imp id (Nat.le_trans hs4)
        clear hW3 hb4 hb5 hA3 hg5 hl5
        go_wp2_with fail
        go_ret
        exact ⟨_, _, _, rfl, hW4, hb6, hg6, hl6⟩
      · have hk : keepW L = false := by unfold keepW; rw [hr]; simpa using hnl
        rw [hk] at hN ⊢
        have HR := Lib.hid hr
        have hne : (normalL L == L) = false := by simpa using hnl
        have HNE := Lib.hid hne
        clear hr hnl hk hne hlen hAB hword
        go_enter Tryd.func23, Tryd.ntmps23
        go_wp2_with fail
        refine (ref_reduced_b HR.out _ _ _ _ hA).mono ?_
        rintro e w1 ⟨rfl, hd1⟩
        have hA1 := hA.drawn hd1
        have hW1 := hW.below (hd1.below _)
        have hb1 : Below w.heap.size w w1 := hd1.below _
        clear hd1
        go_wp2_with fail
        refine (ref_normal _ _ _ _ _ hA1 hmc HWD.out).mono ?_
        rintro e w2 ⟨X, mX, cX, rfl, hX, hb2⟩
        have hA2 := hA1.below hb2
        have hW2 := hW1.below hb2
        have hb3 := below_chain hb1 hb2 hb1.size
        clear hA1 hW1 hb1 hb2
        go_wp2_with fail
        refine (ref_equal _ _ _ _ _ _ _ _ _ hX hA2).mono ?_
        rw [HNE.out]
        rintro e w3 ⟨rfl, hd3⟩
        have hW3 := hW2.below (hd3.below _)
        have hb4 : Below w.heap.size w w3 := hb3.trans (hd3.below _)
        clear hA2 hW2 hb3 hd3 hX
        go_wp2_with fail
        go_ret
        exact givesW_as ⟨_, _, vs, rfl, hW3, hb4.mono hbase, grown_below hb4, fun _ h => .inl h⟩ rfl (by simp)
    · have hk : keepW L = false := by unfold keepW; rw [hr]; rfl
      rw [hk] at hN ⊢
      have HR := Lib.hid hr
      clear hr hk hlen hAB hword
      go_enter Tryd.func23, Tryd.ntmps23
      go_wp2_with fail
      refine (ref_reduced_b HR.out _ _ _ _ hA).mono ?_
      rintro e w1 ⟨rfl, hd1⟩
      have hW1 := hW.below (hd1.below _)
      have hb1 : Below w.heap.size w w1 := hd1.below _
      clear hd1
      go_wp2_with fail
      go_ret
      exact givesW_as ⟨_, _, vs, rfl, hW1, hb1.mono hbase, grown_below hb1, fun _ h => .inl h⟩ rfl (by simp)
  | succ d ih =>
    intro L A m c B q cq vs Ws base w hmd hA hmc h40 hW hbase hAB hN
    have HIH := Lib.hid ih
    have t0 : ((m : Int) == (n : Int)) = false := by simp; omega
    have H40 := Lib.hid h40
    have HN := Lib.hid hN
    have HAB := Lib.hid hAB
    have hle := hA.le
    clear ih hAB h40 hN
    go_enter Tryd.func23, Tryd.ntmps23
    go_wp2_with fail
    go_loopw [3, 9] (fun v3 v9 wr => ∃ (g : Nat) (B' : Option Addr) (q' c' : Nat) (vs' : List SW) (P : List (List Int)), g ≤ K + 1 ∧ v9 = .int .i64 (g : Int) ∧ v3 = .slice B' q' c' ∧ Wl wr base B' q' c' vs' P ∧ Below base w wr ∧ w.grownBy wr (blk B) ∧ (∀ k, blk B' = some k → blk B = some k ∨ w.heap.size ≤ k) ∧ Hid (P = Ws ++ grownTo K d L g) ∧ Hid (q' = q + (grownTo K d L g).length)) (fun _ v9 _ => K + 1 - (intOf v9).toNat)
    case atStart => exact ⟨0, B, q, cq, vs, Ws, Nat.zero_le _, rfl, rfl, hW, Below.refl _ _, World.grownBy.refl _ _, fun _ h => .inl h, Lib.hid (by rw [grownTo_zero, List.append_nil]), Lib.hid (by rw [grownTo_zero]; rfl)⟩
    case round =>
      obtain ⟨g, B', q', c', vs', P, hg, rfl, rfl, hWr, hbr, hgr, hlr, HP, HQ⟩ := hrel
      clear hW
      have HLR := Lib.hid hlr
      have hAr := hA.growW hgr (fun k hk => (HAB.out k hk).2.2)
      clear hlr
      by_cases hlt : g ≤ K
      · have i0 : (g : Int) ≤ (K : Int) := by omega
        have hbs := hbr.size
        go_wp2_with (at_builtin; refine appS rfl _ _ rfl rfl (Own.nil wr wr.heap.size) hAr rfl rfl m (by omega) (by omega) (Nat.le_refl _) ?_)
        intro X cX w1 hX hb1 _ _
        have hX' : Own w1 wr.heap.size X m cX L := by simpa using hX
        have hs1 := hb1.size
        clear hX
        go_wp2_with (at_builtin; refine app1n rfl _ _ rfl hX' (g : Int) rfl rfl (by unfold I64; omega) (by omega) hs1 ?_)
        intro Y cY w2 hY hb2 _ _
        have hb3 := hb1.trans hb2
        have hWr2 := hWr.below hb3
        have hbase2 := Nat.le_trans hbase hbs
        have hbr2 := hbr.trans (hb3.mono hbase2)
        have hAB : ∀ k, blk Y = some k → base ≤ k ∧ k < w2.heap.size ∧ blk B' ≠ some k := fun k hk => by
          obtain ⟨h1, h2⟩ := hY.lt k hk
          refine ⟨Nat.le_trans hbase2 h1, h2, fun e => ?_⟩
          have := (hWr.row.lt k e).2
          omega
        have hNg : q' + (grown K d (L ++ [(g : Int)])).length ≤ 100000 := by
          have h1 := grownTo_len K d L hlt
          rw [grownTo_succ, List.length_append] at h1
          have := HN.out
          rw [HQ.out]
          omega
        have hgr2 := grown_next hgr (grown_below (row := none) hb3) (fun k hk => by cases hk)
        have hIH := HIH.out (L ++ [(g : Int)]) Y (m + 1) cY B' q' c' vs' P base w2 (by omega) hY.ints hY.cap (in40_snoc H40.out (by omega)) hWr2 (Nat.le_trans hbase2 hb3.size) hAB hNg
        obtain ⟨P2, hP2⟩ : ∃ P2, P2 = P ++ grown K d (L ++ [(g : Int)]) := ⟨_, rfl⟩
        obtain ⟨q2, hq2⟩ : ∃ q2, q2 = q' + (grown K d (L ++ [(g : Int)])).length := ⟨_, rfl⟩
        rw [← hP2, ← hq2] at hIH
        have HP2 := Lib.hid (show P2 = Ws ++ grownTo K d L (g + 1) by rw [hP2, HP.out, grownTo_succ, List.append_assoc])
        have HQ2 := Lib.hid (show q2 = q + (grownTo K d L (g + 1)).length by rw [hq2, HQ.out, grownTo_succ, List.length_append, Nat.add_assoc])
        have HI := Lib.hid hIH
        clear hIH hP2 hq2 hNg hAB hWr2 hY hX' hWr hbr hb1 hb2 hb3 HP HQ hAr hs1
        go_wp2_with fail
        refine HI.out.mono ?_
        rintro e w3 ⟨B3, c3, vs3, rfl, hW3, hb4, hg4, hl4⟩
        have hbr3 := hbr2.trans hb4
        have hgr3 := grown_next hgr2 hg4 HLR.out
        have hl3 : ∀ k, blk B3 = some k → blk B = some k ∨ w.heap.size ≤ k := fun k hk => by
          rcases hl4 k hk with e | e
          · exact HLR.out k e
          · exact .inr (Nat.le_trans hgr2.size e)
        clear hb4 hbr2 HI hg4 hl4 hgr2 HLR hgr
        go_wp2_with fail
        go_roundw
        case rel => exact ⟨g + 1, B3, q2, c3, vs3, P2, by omega, by go_num, rfl, hW3, hbr3, hgr3, hl3, HP2, HQ2⟩
        case measure => simp [intOf]; omega
      · have hgk : g = K + 1 := by omega
        have i0 : ¬ (g : Int) ≤ (K : Int) := by omega
        go_wp2_with fail
        go_ret
        exact givesW_as ⟨_, _, vs', rfl, hWr, hbr, hgr, HLR.out⟩ (by rw [HQ.out, hgk, grownTo_all]) (by rw [HP.out, hgk, grownTo_all])
end

section
open Go.RowKit Go.Shelf
attribute [local go_sem] Oper.semAt_some
/-- Ending a call whose deferred calls are marks. -/
theorem leaves_marks {P : Program} {fn : Func} {tmps : Array Value} {R : Ending → World → Prop} : ∀ (Ds : List Nat) (W : World), Ds.Nodup → (∀ D ∈ Ds, W.heap[D]? = some (.deferred (some []))) →
    (∀ W', Kept (fun k => k ∉ Ds) W W' → ∃ v, (results fn tmps).run P W' = .ok v W' ∧ R (.returned v) W') →
    LeavesInM Fence.wide 0 P fn tmps R (Ds.map fun D => { target := .collected D, args := #[] }) .returning W
  | [], W, _, _, h => h W (Kept.refl _ _)
  | D :: Ds, W, hn, hd, h => by
    have hD := hd D (List.mem_cons_self ..)
    obtain ⟨h1, h2⟩ := List.nodup_cons.1 hn
    refine ⟨by simp, .inl ⟨D, _, rfl, run_takeDeferred hD, ?_⟩⟩
    refine leaves_marks Ds _ h2 (fun E hE => (World.putObj_heap_other (fun e => h1 (by rw [← e]; exact hE))).trans (hd E (List.mem_cons_of_mem _ hE))) (fun W' hk => h W' ?_)
    refine Kept.next (Kept.putObj W D _ fun k hk e => hk (by rw [e]; exact List.mem_cons_self ..)) hk (fun k _ hk hm => hk (List.mem_cons_of_mem _ hm))
theorem line_begun (K N : Int) (A : Option Addr) (m c : Nat) (w : World) :
    Calls Tryd.prog 16 #[.int .i64 K, .int .i64 N, .slice A m c] w fun e w' =>
      e = .returned (.func (.func 30) #[] #[.pointer (some ⟨w.heap.size + 2, 0, none⟩), .pointer (some ⟨w.heap.size + 1, 0, none⟩), .pointer (some ⟨w.heap.size, 0, none⟩)]) ∧
      w' = ((w.alloc (.cells #[.int .i64 K] 3)).alloc (.cells #[.int .i64 N] 3)).alloc (.cells #[.slice A m c] 28) := by
  go_enter Tryd.func16, Tryd.ntmps16
  go_wp2_with fail
  go_ret
  exact ⟨rfl, rfl⟩
/-- What the iterator's value has captured. -/
structure Capt (W : World) (K n : Nat) (A : Option Addr) (m c bw bn bk : Nat) (L : List Int) : Prop where
  hw : Boxed W bw 28 (.slice A m c)
  hn : Boxed W bn 3 (.int .i64 (n : Int))
  hk : Boxed W bk 3 (.int .i64 (K : Int))
  own : Own W 0 A m c L
  ne : ∀ k, blk A = some k → k ≠ bw ∧ k ≠ bn ∧ k ≠ bk
def Away (A : Option Addr) (bw bn bk : Nat) (U : Nat → Prop) : Prop := ¬U bw ∧ ¬U bn ∧ ¬U bk ∧ ∀ k, blk A = some k → ¬U k
abbrev caps (bw bn bk : Nat) : Array Value := #[.pointer (some ⟨bw, 0, none⟩), .pointer (some ⟨bn, 0, none⟩), .pointer (some ⟨bk, 0, none⟩)]
set_option maxRecDepth 100000 in
set_option maxHeartbeats 3200000 in
theorem begun_zero (K n : Nat) (hn : n ≤ 400) (L : List Int) (A : Option Addr) (c bw bn bk : Nat) (h40 : ∀ x ∈ L, 0 ≤ x ∧ x ≤ 40) :
    Seq Tryd.prog 30 (caps bw bn bk) false (bgn K 0 L) (fun W => Capt W K n A n c bw bn bk L) (Away A bw bn bk) (fun k => blk A ≠ some k) (fun W => Own W 0 A n c L) := by
  intro l U J Jx W ⟨hbw, hbn, hbk, hA, hne⟩ hU haw hJ hJx hR h0
  refine callsIn_of_wp Tryd.func30 rfl trivial ?_ rfl
  simp only [Tryd.ntmps30, List.size_toArray, List.length_cons, List.length_nil, Nat.reduceAdd, Nat.reduceSub, Array.replicate_succ, Array.replicate_zero, List.push_toArray, List.append_toArray, List.nil_append, List.cons_append]
  refine wpIn_wide.2 ?_
  go_upto_region 1 with fail
  have kX : Kept (fun _ => True) W (W.alloc (.cells #[.func (.yield l) #[] #[]] 35)) := Kept.alloc _ _ _
  have yX := Boxed.new W 35 (.func (.yield l) #[] #[])
  have hA1 := hA.keptU kX (fun _ _ => trivial)
  have e1 : Boxed _ bw 28 (.slice A n c) := kX.heap hbw trivial
  have e2 : Boxed _ bn 3 (.int .i64 (n : Int)) := kX.heap hbn trivial
  have hJ0 := hJ _ _ _ h0 (kX.mono fun _ _ _ => trivial)
  have hz : W.heap.size < (W.alloc (.cells #[.func (.yield l) #[] #[]] 35)).heap.size := by simp
  generalize W.alloc (.cells #[.func (.yield l) #[] #[]] 35) = X at kX yX hA1 e1 e2 hJ0 hz ⊢
  have c1 := e1.cell
  have c2 := e2.cell
  have c4 := yX.cell
  have t0 : ((n : Int) == (n : Int)) = true := beq_self_eq_true _
  have hAi := hA1.ints
  obtain ⟨b, hb⟩ : ∃ b, b = (normalL L == L) := ⟨_, rfl⟩
  have k0 : ∀ wx, Below X.heap.size X wx → (Below X.heap.size X wx ∧ wx.cell? ⟨bw, 0, none⟩ = some (.slice A n c)) := fun wx h => ⟨h, (h.cell (p := ⟨bw, 0, none⟩) e1.lt).trans c1⟩
  have k1 : ∀ wx, Below X.heap.size X wx → Calls Tryd.prog 32 #[.slice A n c] wx fun e w' => ∃ A' m c', e = .returned (.slice A' m c') ∧ Own w' wx.heap.size A' m c' (normalL L) ∧ Below wx.heap.size wx w' := fun wx h => line_normal_ A n c L wx (hAi.below h) hn (fun x hx => by have := h40 x hx; omega)
  have k3 : ∀ wx A' m c', Ints wx A' m (normalL L) → Below X.heap.size X wx → Calls Tryd.prog 31 #[.slice A' m c', .slice A n c] wx fun e w' => e = .returned (.bool b) ∧ Drawn wx w' := fun wx A' m c' h h2 => by rw [hb]; exact slices_equal A' A m n c' c _ _ wx h (hAi.below h2)
  have KP := Lib.hid k0
  have K1 := Lib.hid k1
  have K3 := Lib.hid k3
  have HB := Lib.hid hb
  clear k0 k1 k3 hb
  go_wp2_with fail
  first
    | go_region_held3 (fun wx => Below X.heap.size X wx ∧ wx.cell? ⟨bw, 0, none⟩ = some (.slice A n c)) (first | assumption | exact KP.out _ (Below.refl _ _).drew | exact KP.out _ (below_chain (And.left (by assumption)) (by assumption) (Below.size (And.left (by assumption)))) | exact KP.out _ (below_chain (And.left (by assumption)) (Drawn.below (by assumption) _) (Below.size (And.left (by assumption)))))
        (first
          | ((go_at_call 32; (with_reducible refine (K1.out _ (And.left (by assumption))).mono ?_); rintro e q1 ⟨A1, n1, c5, rfl, hN1, hz1⟩))
          | ((go_at_call 31; (with_reducible refine (K3.out _ _ _ _ hN1.ints (And.left (by assumption))).mono ?_); rintro e q2 ⟨rfl, hz2⟩)))
    | fail
  all_goals
    have hbf := And.left (show Below X.heap.size X _ ∧ _ by assumption)
  all_goals
    have kq : Kept (fun _ => True) X _ := Kept.of_below hbf (fun k hk _ => hk)
    have f1 : Boxed _ bw 28 (.slice A n c) := kq.heap e1 trivial
    have f4 : Boxed _ W.heap.size 35 (.func (.yield l) #[] #[]) := kq.heap yX trivial
    have hA2 := hA1.keptU kq (fun _ _ => trivial)
    have hJ2 := hJ _ _ _ hJ0 (kq.mono fun _ _ _ => trivial)
    have kW := kX.trans kq
    clear hAi hN1 hz1 hz2 KP K1 K3 c1 c2 c4 hbf kq hA1 hJ0 kX yX e1 e2
    cases b with
    | false =>
      have hT : bgn K 0 L = [] := by
        unfold bgn
        rw [if_neg]
        intro e
        have := HB.out
        rw [e] at this
        simp at this
      have HT := Lib.hid hT
      clear hT
      go_wp2_with fail
      refine bodyPost_ret (results_none rfl _ _ _) rfl ⟨⟨_, rfl⟩, .inl ?_, kW.mono (fun _ _ _ => trivial), hA2⟩
      rw [HT.out]
      exact hJ2
    | true =>
      have hL : normalL L = L := by have := HB.out; simpa using this.symm
      have hT : bgn K 0 L = [L] := by unfold bgn; rw [if_pos hL]
      obtain ⟨fn, tmps, assign, body, hy, hRr⟩ := hR [] A n c L _ hJ2 hA2 haw.2.2.2 (by rw [hT]; exact List.prefix_refl _)
      have HT := Lib.hid hT
      clear hT hL
      go_upto_region 3 with fail
      refine wpIn_wide (n := 0).1 ?_
      have c1 := f1.cell
      have c4 := f4.cell
      have NE := Lib.hid haw.2.2.2
      gi_wp2
      refine ⟨rfl, hRr.mono ?_⟩
      rintro e W3 ⟨hh, hk⟩
      have kW3 : Kept (fun k => ¬U k ∧ blk A ≠ some k) W W3 := (kW.mono fun _ _ _ => trivial).next hk (fun k _ h => ⟨h.1, fun h2 => by cases h2⟩)
      have hA3 := hA2.keptU hk (fun k h => ⟨NE.out k h, fun h2 => by cases h2⟩)
      clear hy hRr hk
      rcases hh with ⟨rfl, hJ3⟩ | ⟨rfl, hx3⟩
      · gi_wp2
        go_wp2_with fail
        refine bodyPost_ret (results_none rfl _ _ _) rfl ⟨⟨_, rfl⟩, .inl ?_, kW3, hA3⟩
        rw [HT.out]
        exact hJ3
      · gi_wp2
        go_wp2_with fail
        refine bodyPost_ret (results_none rfl _ _ _) rfl ⟨⟨_, rfl⟩, .inr ⟨[L], ?_, hx3⟩, kW3, hA3⟩
        rw [HT.out]
        exact List.prefix_refl _
end
end Go.Proofs.YtpdkonpnhalecaaDoor
