/-
  Contracts: line.Inside, line.Winding. Conditions: the slices read as lists of ints.
  Contract: line.Winding. Conditions: the slices read as lists of ints.
  Contract: line.reduce. Conditions: the slice reads as a list of at most 400 ints.
  Contracts: line.least, slices.Compare, line.normal, line.Normal, line.Forget, line.Same. Conditions: the slices read as lists of ints.
  Contracts: slices.Compare, slices.Equal, line.normal, line.Normal, line.Same. Conditions: the slices read as lists of ints.
  Contracts: line.Forget, line.Same. Conditions: the slices read as lists of ints.
-/
import Derived.Test.YtkjcmppaapbabaaDoorJX
import Derived.Test.YtkjcmppaapbabaaDoorJC
import Derived.Test.YtkjcmppaapbabaaDoorJW
import Derived.Deep.DeepCutAuto
import Derived.Deep.CutBlock
namespace Go.Proofs.YtkjcmppaapbabaaDoor
section
open Go.RowKit

/-- The letter i is below f. -/
def ltAt (L : List Int) (f : Int) (i : Nat) : Bool := match L[i]? with
  | some x => decide (x < f)
  | none => false
theorem ltAt_of {L : List Int} {f x : Int} {i : Nat} (h : L[i]? = some x) : ltAt L f i = decide (x < f) := by unfold ltAt; rw [h]
/-- line.Inside: the fingers to k with an odd number of letters below them. -/
def insTo (L : List Int) : Nat → List Int
  | 0 => []
  | k + 1 => insTo L k ++ (if countTo (ltAt L ((k : Int) + 1)) L.length % 2 = 1 then [(k : Int) + 1] else [])
theorem insTo_yes {L : List Int} {k : Nat} (h : countTo (ltAt L ((k : Int) + 1)) L.length % 2 = 1) : insTo L (k + 1) = insTo L k ++ [(k : Int) + 1] := by
  rw [insTo, if_pos h]
theorem insTo_no {L : List Int} {k : Nat} (h : ¬ countTo (ltAt L ((k : Int) + 1)) L.length % 2 = 1) : insTo L (k + 1) = insTo L k := by
  rw [insTo, if_neg h, List.append_nil]
theorem of_errF {K : Int} {L : List Int} (h : errF K L = 0) : validB K L = true := by
  unfold errF at h
  by_cases h1 : 400 < L.length
  · rw [if_pos h1] at h; cases h
  · rw [if_neg h1] at h
    cases hv : validB K L
    · rw [hv] at h; cases h
    · rfl
theorem k_of_validB {K : Int} {L : List Int} (hv : validB K L = true) : 0 ≤ K ∧ K ≤ 40 := by
  unfold validB at hv
  simp only [Bool.and_eq_true, decide_eq_true_eq] at hv
  exact hv.1.1

end

section
open Go.RowKit

def windsL (L : List Int) (N : Nat) : List Int := (List.range N).map fun t : Nat => windI L ((t : Int) + 1)

/-- The winding numbers behind k letters; and in the midst of the letter k, when the fingers up to s have been reckoned. -/
def windMid (L : List Int) (N k s : Nat) : List Int := (List.range N).map fun t : Nat => sumTo (windAt L ((t : Int) + 1)) (if t < s then k + 1 else k)
theorem windMid_len (L : List Int) (N k s : Nat) : (windMid L N k s).length = N := by simp [windMid]
theorem windMid_get {L : List Int} {N k s : Nat} (h : s < N) : (windMid L N k s)[s]? = some (sumTo (windAt L ((s : Int) + 1)) k) := by
  unfold windMid
  rw [List.getElem?_map, List.getElem?_range h]
  simp
theorem windMid_succ {L : List Int} {N k s : Nat} {x : Int} (h : s < N) (hx : L[k]? = some x) (hs : x < (s : Int) + 1) :
    (windMid L N k s).set s (sumTo (windAt L ((s : Int) + 1)) k + (1 - 2 * ((k : Int) % 2))) = windMid L N k (s + 1) := by
  apply List.ext_getElem?
  intro t
  rw [List.getElem?_set]
  unfold windMid
  by_cases e : s = t
  · subst e
    rw [if_pos rfl, if_pos (by simpa using h), List.getElem?_map, List.getElem?_range h]
    simp [sumTo_succ, windAt_yes hx hs]
  · rw [if_neg e, List.getElem?_map, List.getElem?_map]
    by_cases ht : t < N
    · rw [List.getElem?_range ht]
      by_cases h1 : t < s
      · simp [h1, show t < s + 1 by omega]
      · simp [h1, show ¬ t < s + 1 by omega]
    · rw [List.getElem?_eq_none (by simpa using ht)]; rfl
theorem windMid_zero {L : List Int} {N k s : Nat} {x : Int} (hx : L[k]? = some x) (hs : (s : Int) ≤ x) : windMid L N k 0 = windMid L N k s := by
  unfold windMid
  apply List.map_congr_left
  intro t _
  by_cases h1 : t < s
  · rw [if_neg (by omega), if_pos h1, sumTo_succ, windAt_no hx (by omega), Int.add_zero]
  · rw [if_neg (by omega), if_neg h1]
theorem windMid_end (L : List Int) (N k : Nat) : windMid L N k N = windMid L N (k + 1) 0 := by
  unfold windMid
  apply List.map_congr_left
  intro t ht
  rw [if_pos (List.mem_range.1 ht), if_neg (by omega)]
theorem windMid_start (L : List Int) (N : Nat) : List.replicate N 0 = windMid L N 0 0 := by
  unfold windMid
  symm
  apply List.eq_replicate_iff.2
  simp [sumTo]
theorem windMid_last {L : List Int} {N n : Nat} (h : L.length = n) : windMid L N n 0 = windsL L N := by
  unfold windMid windsL windI
  rw [h]
  apply List.map_congr_left
  intro t _
  rw [if_neg (by omega)]
theorem le_of_validB {K x : Int} {L : List Int} {k : Nat} (h : validB K L = true) (hx : L[k]? = some x) : x ≤ K := by
  unfold validB at h
  simp only [Bool.and_eq_true, List.all_eq_true, decide_eq_true_eq] at h
  exact h.2 x (List.mem_of_getElem? hx)

end

section
open Go.RowKit

/-- The cells of a stack of letters. -/
def lcells (S : List (Int × Bool)) : List Value := S.flatMap fun x => [.int .i64 x.1, .bool x.2]
theorem lcells_nil : lcells [] = [] := rfl
theorem lcells_cons (x : Int × Bool) (S : List (Int × Bool)) : lcells (x :: S) = .int .i64 x.1 :: .bool x.2 :: lcells S := rfl
theorem lcells_len (S : List (Int × Bool)) : (lcells S).length = S.length * 2 := by
  induction S with
  | nil => rfl
  | cons x S ih => rw [lcells_cons]; simp [ih]; omega
theorem lcells_append (S T : List (Int × Bool)) : lcells (S ++ T) = lcells S ++ lcells T := by simp [lcells]
theorem lcells_get (S : List (Int × Bool)) : ∀ (k : Nat) (x : Int × Bool), S[k]? = some x → (lcells S)[k * 2]? = some (.int .i64 x.1) ∧ (lcells S)[k * 2 + 1]? = some (.bool x.2) := by
  induction S with
  | nil => intro k x h; simp at h
  | cons y S ih =>
    intro k x h
    rw [lcells_cons]
    cases k with
    | zero => simp at h; subst h; exact ⟨rfl, rfl⟩
    | succ k =>
      simp only [List.getElem?_cons_succ] at h
      have := ih k x h
      rw [show (k + 1) * 2 = k * 2 + 1 + 1 by omega]
      simpa using this
theorem lcells_take (S : List (Int × Bool)) : ∀ k, (lcells S).take (k * 2) = lcells (S.take k) := by
  induction S with
  | nil => intro k; simp [lcells_nil]
  | cons y S ih =>
    intro k
    cases k with
    | zero => simp [lcells_nil]
    | succ k =>
      rw [lcells_cons, show (k + 1) * 2 = k * 2 + 1 + 1 by omega, List.take_succ_cons, List.take_succ_cons, ih, List.take_succ_cons, lcells_cons]
theorem lcells_drop (S : List (Int × Bool)) : ∀ k, (lcells S).drop (k * 2) = lcells (S.drop k) := by
  induction S with
  | nil => intro k; simp [lcells_nil]
  | cons y S ih =>
    intro k
    cases k with
    | zero => simp
    | succ k =>
      rw [lcells_cons, show (k + 1) * 2 = k * 2 + 1 + 1 by omega, List.drop_succ_cons, List.drop_succ_cons, ih, List.drop_succ_cons]
theorem lcells_one (S : List (Int × Bool)) : ∀ u ∈ lcells S, u.oneCell' = true := by
  intro u hu
  unfold lcells at hu
  rw [List.mem_flatMap] at hu
  obtain ⟨x, _, hx⟩ := hu
  simp at hx
  rcases hx with rfl | rfl <;> rfl

structure Stk (w : World) (base : Nat) (A : Option Addr) (n c : Nat) (S : List (Int × Bool)) : Prop where
  row : Row w base 2 A n c (lcells S)
  len : S.length = n
  fits : ∀ y ∈ S, I64 y.1
theorem letterInfo : (Tryd.prog.info? 146).map (fun i => (i.zero, i.size, i.bytes)) = some (some (.agg #[.int .i64 0, .bool false]), 2, 16) := by kernel_rfl

theorem fits_push {S : List (Int × Bool)} {g : Int} {b : Bool} (h : ∀ y ∈ S, I64 y.1) (hg : I64 g) : ∀ y ∈ S ++ [(g, b)], I64 y.1 := by
  intro y hy
  rcases List.mem_append.1 hy with hy | hy
  · exact h y hy
  · simp at hy; subst hy; exact hg
theorem pushStk {w : World} {ops : Array Oper} {rest : List Oper} {o : Oper} {a : Act} {Q : Exit → Act → World → Prop} (hgd : o.guard = none) (s x : Operand)
    (ho : o.op = .call { callee := .builtin .append, args := #[s, x], argTypes := #[144, 144] })
    {base : Nat} {A : Option Addr} {n c : Nat} {S : List (Int × Bool)} (hst : Stk w base A n c S) (g : Int) (hg64 : I64 g) (b : Bool) (hs : a.eval s = .slice A n c)
    (hx : a.eval x = .slice (some ⟨w.heap.size, 0, none⟩) 1 1) (N : Nat) (hN : n + 1 = N) (hn : N ≤ 1000) (hbase : base ≤ w.heap.size)
    (h : ∀ A' c' w', Stk w' base A' N c' (S ++ [(g, b)]) → Below base w w' → wpList Tryd.prog ops Q rest (a.put o.dst (.slice A' N c')) w') :
    wpList Tryd.prog ops Q (o :: rest) a (w.alloc (.cells #[.int .i64 g, .bool b] 146)) := by
  obtain ⟨i0, hi, hz0, hz1, hz2⟩ := info_parts letterInfo
  refine appR hgd s x 144 ho 146 i0 _ 2 16 Tryd.underlying144 hi hz0 hz1 hz2 rfl (by decide) (hst.row.alloc _) (Src.new (m := 1) (cs := [.int .i64 g, .bool b]) rfl)
    (by intro u hu; simp at hu; rcases hu with rfl | rfl <;> rfl) hs hx N hN (by unfold maxLen; omega) (by omega) (by simp; omega) ?_
  intro A' c' w' h1 h2 _ _
  refine h A' c' w' ⟨by rw [lcells_append]; exact h1, by rw [List.length_append, hst.len]; exact hN, fits_push hst.fits hg64⟩ ?_
  exact ((Below.refl _ _).alloc hbase _).trans ((hst.row.alloc _).belowOf h2 (by simp; omega))
theorem Stk.drewN {w : World} {base n c : Nat} {A : Option Addr} {S : List (Int × Bool)} (h : Stk w base A n c S) (k : Nat) : Stk (w.drewN k) base A n c S := ⟨h.row.drewN k, h.len, h.fits⟩
theorem Stk.below {w w' : World} {base n c : Nat} {A : Option Addr} {S : List (Int × Bool)} (h : Stk w base A n c S) (hb : Below w.heap.size w w') : Stk w' base A n c S := ⟨h.row.below hb, h.len, h.fits⟩
theorem stepStk {w : World} {ops : Array Oper} {o : Oper} {a : Act} {K : Act → World → Prop} {Q : Exit → Act → World → Prop} {E : Prop} (hgd : o.guard = none) (s x : Operand)
    (ho : o.op = .call { callee := .builtin .append, args := #[s, x], argTypes := #[144, 144] })
    {base : Nat} {A : Option Addr} {n c : Nat} {S : List (Int × Bool)} (hst : Stk w base A n c S) (g : Int) (hg64 : I64 g) (b : Bool) (hs : a.eval s = .slice A n c) {B : Option Addr}
    (hx : a.eval x = .slice B 1 1) (hsrc : Src w 2 B 1 [.int .i64 g, .bool b]) (N : Nat) (hN : n + 1 = N) (hn : N ≤ 1000) (hbase : base ≤ w.heap.size)
    (h : ∀ A' c' w', Stk w' base A' N c' (S ++ [(g, b)]) → Below base w w' → Olds w w' A (n * 2) (c < N) → K (a.put o.dst (.slice A' N c')) w') :
    if Region.wanted o (yielded ops a.tmps) = true then Oper.wp Tryd.prog o a w K Q else E := by
  obtain ⟨i0, hi, hz0, hz1, hz2⟩ := info_parts letterInfo
  refine stepR hgd s x 144 ho 146 i0 _ 2 16 Tryd.underlying144 hi hz0 hz1 hz2 rfl (by decide) hst.row hsrc
    (by intro u hu; simp at hu; rcases hu with rfl | rfl <;> rfl) hs hx N hN (by unfold maxLen; omega) (by omega) hbase ?_
  intro A' c' w' h1 h2 _ h4
  exact h A' c' w' ⟨by rw [lcells_append]; exact h1, by rw [List.length_append, hst.len]; exact hN, fits_push hst.fits hg64⟩ (hst.row.belowOf h2 hbase) h4
theorem keepB {w wx : World} {a b : Addr} {u v : Value} (ha : w.cell? a = some u) (hb : w.cell? b = some v) (h : Below w.heap.size w wx) : Below w.heap.size w wx ∧ wx.cell? a = some u ∧ wx.cell? b = some v :=
  ⟨h, (h.cell (World.block_lt_of_cell? w a ha)).trans ha, (h.cell (World.block_lt_of_cell? w b hb)).trans hb⟩
/-- The letter at k. -/
theorem Stk.at_ {w : World} {base n c g off k : Nat} {S : List (Int × Bool)} (h : Stk w base (some ⟨g, off, none⟩) n c S) (hk : k < n) :
    ∃ x b, S[k]? = some (x, b) ∧ w.cell? ⟨g, off + k * 2, none⟩ = some (.int .i64 x) ∧ w.cell? ⟨g, off + (k * 2 + 1), none⟩ = some (.bool b) := by
  have hk' : k < S.length := by rw [h.len]; exact hk
  obtain ⟨⟨x, b⟩, hx⟩ : ∃ y, y = S[k] := ⟨_, rfl⟩
  have hs : S[k]? = some (x, b) := by rw [List.getElem?_eq_getElem hk', hx]
  obtain ⟨h1, h2⟩ := lcells_get S k _ hs
  exact ⟨x, b, hs, h.row.cell h1, h.row.cell h2⟩
theorem Stk.to {w : World} {base n c j : Nat} {A : Option Addr} {S : List (Int × Bool)} (h : Stk w base A n c S) (hj : j ≤ n) : Stk w base A j c (S.take j) :=
  ⟨by rw [← lcells_take]; exact h.row.to hj, by rw [List.length_take, h.len]; omega, fun y hy => h.fits y (List.mem_of_mem_take hy)⟩
theorem Stk.cut {w : World} {base n c i j : Nat} {A : Option Addr} {S : List (Int × Bool)} (h : Stk w base A n c S) (hij : i ≤ j) (hj : j ≤ n) :
    Stk w base (if c = i then A else A.map (·.add (i * 2))) (j - i) (c - i) ((S.take j).drop i) :=
  ⟨by rw [← lcells_drop, ← lcells_take]; exact h.row.cut hij hj, by rw [List.length_drop, List.length_take, h.len]; omega, fun y hy => h.fits y (List.mem_of_mem_take (List.mem_of_mem_drop hy))⟩
theorem Stk.from_ {w : World} {base n c i : Nat} {A : Option Addr} {S : List (Int × Bool)} (h : Stk w base A n c S) (hi : i ≤ n) :
    Stk w base (if c = i then A else A.map (·.add (i * 2))) (n - i) (c - i) (S.drop i) :=
  ⟨by rw [← lcells_drop]; exact h.row.from_ hi, by rw [List.length_drop, h.len], fun y hy => h.fits y (List.mem_of_mem_drop hy)⟩
def lenOf : Value → Nat
  | .slice _ n _ => n
  | _ => 0

/-- The first letter goes up. -/
def upS : List (Int × Bool) → Bool
  | [] => false
  | x :: _ => !x.2
theorem upS_of {T : List (Int × Bool)} {x : Int} {b : Bool} (h : T[0]? = some (x, b)) : upS T = !b := by
  cases T with
  | nil => simp at h
  | cons y r => simp at h; subst h; rfl
theorem turnS_no {T : List (Int × Bool)} (h : false = upS T) : T = turnS T := by
  cases T with
  | nil => rfl
  | cons y r => obtain ⟨y, b⟩ := y; cases b <;> simp [upS] at h; rfl
theorem turnS_yes {T : List (Int × Bool)} {x : Int} (h : T[0]? = some (x, false)) : T.drop 1 ++ [(x, false)] = turnS T := by
  cases T with
  | nil => simp at h
  | cons y r => simp at h; subst h; rfl

set_option maxHeartbeats 1600000 in
set_option maxRecDepth 100000 in
theorem line_reduce (A : Option Addr) (n c : Nat) (L : List Int) (w : World) (hA : Ints w A n L) (hn : n ≤ 400) :
    Calls Tryd.prog 138 #[.slice A n c] w fun e w' => ∃ A' m c', e = .returned (.slice A' m c') ∧ Own w' w.heap.size A' m c' (reduceL L) ∧ Below w.heap.size w w' := by
  have hle := hA.le
  have HL := Lib.hid hA.len
  obtain ⟨i0, hi, hz0, hz1, hz2⟩ := info_parts letterInfo
  go_enter Tryd.func138, Tryd.ntmps138
  go_wp2_with fail
  go_loopw [3, 12] (fun v i wr => ∃ (k m d : Nat) (B : Option Addr) (S : List (Int × Bool)), k ≤ n ∧ m ≤ k ∧ i = .int .i64 k ∧ v = .slice B m d ∧ Stk wr w.heap.size B m d S ∧ Below w.heap.size w wr ∧ Hid (S = stackTo L k)) (fun _ i _ => n - (intOf i).toNat)
  case atStart => exact ⟨0, 0, 0, none, [], Nat.zero_le _, Nat.le_refl _, rfl, rfl, ⟨Row.none_ _ _ _, rfl, by simp⟩, Below.refl _ _, rfl⟩
  case round =>
    obtain ⟨k, m, d, B, S, hk, hmk, rfl, rfl, hst, hb, HS⟩ := hrel
    by_cases hlt : k < n
    · obtain ⟨ad, x, rfl, hx, hx1, hx2, hc⟩ := (hA.below hb).at_ hlt
      have hsz := hb.size
      have hpar : ((k : Int) % 2 == 0) = decide (k % 2 = 0) := by rw [Bool.eq_iff_iff]; simp; omega
      have HPAR := Lib.hid hpar
      clear hpar
      rcases Nat.eq_zero_or_pos m with h0 | h0
      · subst h0
        have hSn : S = [] := List.eq_nil_of_length_eq_zero hst.len
        subst hSn
        go_wp2_with (at_builtin; refine pushStk rfl _ _ rfl hst x ⟨hx1, hx2⟩ _ rfl rfl 1 (by omega) (by omega) hsz ?_)
        intro B' d' w1 hst' hb'
        have hbw := hb.trans hb'
        have HS' : Hid ([] ++ [(x, ((k : Int) % 2 == 0))] = stackTo L (k + 1)) := by
          unfold Hid; rw [stackTo_succ hx.out, ← HS.out, pushS_nil, HPAR.out]; rfl
        clear hst hb hb' hc HS HPAR
        go_wp2_with fail
        go_roundw
        case rel => exact ⟨k + 1, 1, d', B', _, by omega, by omega, by go_num, rfl, hst', hbw, HS'⟩
        case measure => simp [intOf]; omega
      · obtain ⟨q, rfl⟩ : ∃ q, m = q + 1 := ⟨m - 1, by omega⟩
        have hcap := hst.row.cap
        obtain ⟨g, off, rfl, _, _⟩ := hst.row.form h0
        obtain ⟨y, b, hy, hcy, _⟩ := hst.at_ (show q < q + 1 by omega)
        have HY := Lib.hid hy
        clear hy
        by_cases hxy : y = x
        · have hxy' : (y == x) = true := by simpa using hxy
          have HS' : Hid (S.take q = stackTo L (k + 1)) := by
            unfold Hid; rw [stackTo_succ hx.out, ← HS.out, pushS_pop hst.len (hxy ▸ HY.out)]
          have hst' := hst.to (show q ≤ q + 1 by omega)
          clear hxy HS HPAR HY
          go_wp2_with fail
          go_roundw
          case rel => exact ⟨k + 1, q, d, _, _, by omega, by omega, by go_num, rfl, hst', hb, HS'⟩
          case measure => simp [intOf]; omega
        · have hxy' : (y == x) = false := by simpa using hxy
          have HNE := Lib.hid hxy
          clear hxy
          go_wp2_with (at_builtin; refine pushStk rfl _ _ rfl hst x ⟨hx1, hx2⟩ _ rfl rfl (q + 1 + 1) (by omega) (by omega) hsz ?_)
          intro B' d' w1 hst' hb'
          have hbw := hb.trans hb'
          have HS' : Hid (S ++ [(x, ((k : Int) % 2 == 0))] = stackTo L (k + 1)) := by
            unfold Hid; rw [stackTo_succ hx.out, ← HS.out, pushS_push hst.len HY.out HNE.out, HPAR.out]
          clear hst hb hb' hc HS HPAR HY HNE hcy
          go_wp2_with fail
          go_roundw
          case rel => exact ⟨k + 1, q + 1 + 1, d', B', _, by omega, by omega, by go_num, rfl, hst', hbw, HS'⟩
          case measure => simp [intOf]; omega
    · have hkn : k = n := by omega
      subst hkn
      rw [← HL.out] at HS
      go_upto_block 2 with fail
      go_cut [3] (fun v wx => ∃ (m d : Nat) (B : Option Addr) (T : List (Int × Bool)), m ≤ k ∧ v = .slice B m d ∧ Stk wx w.heap.size B m d T ∧ Below w.heap.size w wx ∧ Hid (T = trimS (stackTo L L.length)))
      case first =>
       go_wp2_with fail
       go_loopw [3] (fun v wr => ∃ (m d : Nat) (B : Option Addr) (T : List (Int × Bool)), m ≤ k ∧ v = .slice B m d ∧ Stk wr w.heap.size B m d T ∧ Below w.heap.size w wr ∧ Hid (trimS T = trimS (stackTo L L.length))) (fun v _ => lenOf v)
       case atStart => exact ⟨m, d, B, S, hmk, rfl, hst, hb, by rw [HS.out]; rfl⟩
       case round =>
         clear hst hb HS hmk
         obtain ⟨m, d, B, T, hmk, rfl, hst, hb, HT⟩ := hrel
         have hcap := hst.row.cap
         by_cases h1 : 1 < m
         · obtain ⟨j, hj⟩ : ∃ j : Nat, m = j + 1 := ⟨m - 1, by omega⟩
           obtain ⟨g, off, rfl, _, _⟩ := hst.row.form (by omega)
           obtain ⟨x, b, hx, hcx, _⟩ := hst.at_ (show 0 < m by omega)
           obtain ⟨y, b', hy, hcy, _⟩ := hst.at_ (show j < m by omega)
           simp only [Nat.zero_mul, Nat.add_zero] at hcx
           have HX := Lib.hid hx
           have HY := Lib.hid hy
           clear hx hy
           have hcond : (1 < T.length ∧ T.head?.map (·.1) = T.getLast?.map (·.1)) ↔ x = y := by
             rw [List.head?_eq_getElem?, List.getLast?_eq_getElem?, hst.len, HX.out, show m - 1 = j by omega, HY.out]
             simp; omega
           have HC := Lib.hid hcond
           clear hcond
           have hw : IntKind.i64.wrap ((m : Int) - 1) = (j : Int) := by rw [show (m : Int) - 1 = j by omega]; exact IntWalk.i64_in _ (by omega)
           have hj2 : (m : Int) - 1 = (j : Int) := by omega
           have hg1 : decide ((1 : Int) < (m : Int)) = true := by simp; omega
           have hb0 : (0 : Int) ≤ (j : Int) := by omega
           have hb1 : (j : Int) < (m : Int) := by omega
           have hb2 : (1 : Int) ≤ (j : Int) := by omega
           have hb3 : (j : Int) ≤ (d : Int) := by omega
           have hb4 : (0 : Int) < (m : Int) := by omega
           have hlen := Lib.hid (hst.len.trans hj)
           have HJ := Lib.hid hj
           clear hj
           by_cases hxy : x = y
           · have hxy' : (x == y) = true := by simpa using hxy
             have hd1 : ¬ d = 1 := by omega
             have hst' : Stk wr w.heap.size (some ⟨g, off + 2, none⟩) (j - 1) (d - 1) ((T.take j).drop 1) := by
               have := hst.cut (i := 1) (j := j) (by omega) (by omega)
               rwa [if_neg hd1, Option.map_some, Addr.add_lit] at this
             have HT' : Hid (trimS ((T.take j).drop 1) = trimS (stackTo L L.length)) := by
               unfold Hid; rw [← HT.out, trimS_step (HC.out.2 hxy), tail_dropLast hlen.out]
             have hjm : j - 1 < m := by have := HJ.out; omega
             clear hxy HC HX HY HT hst
             go_wp2_with fail
             go_quiet (fail)
             go_wp2_with fail
             go_roundw
             case rel => exact ⟨j - 1, d - 1, _, _, by have := HJ.out; omega, rfl, hst'.drewN nq, below_drewN hb nq, HT'⟩
             case measure => simp [lenOf]; omega
           · have hxy' : (x == y) = false := by simpa using hxy
             have HT' : Hid (T = trimS (stackTo L L.length)) := by
               unfold Hid; rw [← HT.out, trimS_stop (fun h => hxy (HC.out.1 h))]
             clear hxy HC HX HY HT
             go_wp2_with fail
             go_quiet (fail)
             go_wp2_with fail
             go_meet
             case rel => exact ⟨m, d, _, T, hmk, rfl, hst.drewN nq, below_drewN hb nq, HT'⟩
         · have hg1 : decide ((1 : Int) < (m : Int)) = false := by simp; omega
           have HT' : Hid (T = trimS (stackTo L L.length)) := by
             unfold Hid; rw [← HT.out, trimS_stop (fun h => h1 (by rw [hst.len] at h; exact h.1))]
           clear HT
           go_wp2_with fail
           go_quiet (fail)
           go_wp2_with fail
           go_meet
           case rel => exact ⟨m, d, _, T, hmk, rfl, hst.drewN nq, below_drewN hb nq, HT'⟩
      case rest =>
        clear hst hb HS hmk
        obtain ⟨m, d, B, T, hmk, rfl, hst, hb, HT⟩ := hcut
        have hcap := hst.row.cap
        have hsz := hb.size
        obtain ⟨bt, hbt⟩ : ∃ bt, bt = upS T := ⟨_, rfl⟩
        have HBT := Lib.hid hbt
        clear hbt
        go_upto_region 12 with fail
        go_cut [75] (fun v wx => v = .bool bt ∧ wx = wc)
        case first =>
          rcases Nat.eq_zero_or_pos m with h0 | h0
          · subst h0
            have hTn : T = [] := List.eq_nil_of_length_eq_zero hst.len
            subst hTn
            go_wp2_with fail
            go_meet
            case rel => exact ⟨by rw [HBT.out]; rfl, rfl⟩
          · obtain ⟨g, off, rfl, _, _⟩ := hst.row.form h0
            obtain ⟨x, b, hx, hcx, hcb⟩ := hst.at_ h0
            simp only [Nat.zero_mul, Nat.add_zero, Nat.zero_add] at hcx hcb
            have HX := Lib.hid hx
            clear hx
            have hb4 : (0 : Int) < (m : Int) := by omega
            have hg1 : decide ((0 : Int) < (m : Int)) = true := by simp; omega
            go_wp2_with fail
            go_meet
            case rel => exact ⟨by rw [HBT.out, upS_of HX.out], rfl⟩
        case rest =>
        obtain ⟨rfl, hw⟩ := hcut
        subst hw
        go_upto_if 75 with fail
        go_cut [3] (fun v wx => ∃ (m' d' : Nat) (B' : Option Addr) (T' : List (Int × Bool)), m' ≤ k ∧ v = .slice B' m' d' ∧ Stk wx w.heap.size B' m' d' T' ∧ Below w.heap.size w wx ∧ Hid (T' = turnS T))
        case first =>
          cases bt
          · go_wp2_with fail
            go_meet
            case rel => exact ⟨m, d, B, T, hmk, rfl, hst, hb, turnS_no HBT.out⟩
          · have h0 : 0 < m := by
              rcases Nat.eq_zero_or_pos m with h0 | h0
              · have hTn : T = [] := List.eq_nil_of_length_eq_zero (by rw [hst.len]; exact h0)
                rw [hTn] at HBT
                cases HBT.out
              · exact h0
            obtain ⟨g, off, rfl, _, _⟩ := hst.row.form h0
            obtain ⟨x, b, hx, hcx, hcb⟩ := hst.at_ h0
            simp only [Nat.zero_mul, Nat.add_zero, Nat.zero_add] at hcx hcb
            have hbf : b = false := by
              have := HBT.out
              rw [upS_of hx] at this
              cases b
              · rfl
              · cases this
            subst hbf
            have HX := Lib.hid hx
            clear hx
            have hb4 : (0 : Int) < (m : Int) := by omega
            have b1 : (1 : Int) ≤ (m : Int) := by omega
            have b2 : (1 : Int) ≤ (d : Int) := by omega
            have HT' := Lib.hid (turnS_yes HX.out)
            have hx64 := Lib.hid (hst.fits _ (List.mem_of_getElem? HX.out))
            by_cases hd1 : d = 1
            · subst hd1
              obtain rfl : m = 1 := by omega
              have hst' : Stk wc w.heap.size (some ⟨g, off, none⟩) 0 0 (T.drop 1) := by
                have := hst.from_ (i := 1) h0
                rwa [if_pos rfl] at this
              go_wp2_with fail
              go_region_held3 (fun wx => wx.cell? ⟨g, off, none⟩ = some (.int .i64 x) ∧ wx.cell? ⟨g, off + 1, none⟩ = some (.bool false)) (first | go_keep | exact Olds.two hg2 (by omega) (by assumption))
                ((refine stepStk rfl (.tmp 77) (.tmp 81) (by rfl) (hst'.below ((Below.refl _ _).alloc (Nat.le_refl _) _).drew) x hx64.out false (by rfl) (by rfl) (Src.drew (Src.new (m := 1) (cs := [.int .i64 x, .bool false]) rfl)) 1 (by omega) (by omega) (by simp; omega) ?_; intro A2 d2 w2 hst2 hb2 hg2))
              go_wp2_with fail
              go_meet
              case rel => exact ⟨1, d2, A2, _, by omega, rfl, hst2, (hb.alloc hb.size _).drew.trans hb2, HT'⟩
            · have hst' : Stk wc w.heap.size (some ⟨g, off + 2, none⟩) (m - 1) (d - 1) (T.drop 1) := by
                have := hst.from_ (i := 1) h0
                rwa [if_neg hd1, Option.map_some, Addr.add_lit] at this
              go_wp2_with fail
              go_region_held3 (fun wx => wx.cell? ⟨g, off, none⟩ = some (.int .i64 x) ∧ wx.cell? ⟨g, off + 1, none⟩ = some (.bool false)) (first | go_keep | exact Olds.two hg2 (by omega) (by assumption))
                ((refine stepStk rfl (.tmp 77) (.tmp 81) (by rfl) (hst'.below ((Below.refl _ _).alloc (Nat.le_refl _) _).drew) x hx64.out false (by rfl) (by rfl) (Src.drew (Src.new (m := 1) (cs := [.int .i64 x, .bool false]) rfl)) m (by omega) (by omega) (by simp; omega) ?_; intro A2 d2 w2 hst2 hb2 hg2))
              go_wp2_with fail
              go_meet
              case rel => exact ⟨m, d2, A2, _, by omega, rfl, hst2, (hb.alloc hb.size _).drew.trans hb2, HT'⟩
        case rest =>
          have hTT := HT
          clear hst hb HT hcap hsz HBT
          obtain ⟨m, d, B, T', hmk, rfl, hst, hb, HT⟩ := hcut
          have HLT := Lib.hid hst.len
          go_wp2_with fail
          go_loopw [7, 85] (fun v i wr => ∃ (t : Nat) (C : Option Addr) (e : Nat) (P : List Int), t ≤ m ∧ i = .int .i64 t ∧ v = .slice C t e ∧ Own wr wc.heap.size C t e P ∧ Below wc.heap.size wc wr ∧ Hid (P = (T'.take t).map (·.1))) (fun _ i _ => m - (intOf i).toNat)
          case atStart => exact ⟨0, none, 0, [], Nat.zero_le _, rfl, rfl, Own.nil _ _, Below.refl _ _, rfl⟩
          case round =>
            obtain ⟨t, C, e, P, ht, rfl, rfl, hown, hbr, HP⟩ := hrel
            by_cases htm : t < m
            · obtain ⟨g, off, rfl, _, hgl⟩ := hst.row.form (by omega)
              obtain ⟨x, b, hx, hcx, hcb⟩ := hst.at_ htm
              have hcx' := (hbr.cell (p := ⟨g, off + t * 2, none⟩) hgl).trans hcx
              have hcb' := (hbr.cell (p := ⟨g, off + (t * 2 + 1), none⟩) hgl).trans hcb
              have hcb2 : wr.cell? ⟨g, off + t * 2 + 1, none⟩ = some (.bool b) := by rw [Nat.add_assoc]; exact hcb'
              have HX := Lib.hid hx
              have hsz := hbr.size
              clear hx hcx hcb hcb'
              have hx64 := Lib.hid (hst.fits _ (List.mem_of_getElem? HX.out))
              go_wp2_with (at_builtin; refine app1m rfl _ _ rfl (hown.alloc _) x rfl (wr.heap.size + 1) (by simp) rfl hx64.out (by omega) (by simp; omega) ?_)
              intro C' e' w1 hown' hb' _ _
              have hbw := (hbr.alloc hbr.size _).trans hb'
              have HP' : Hid (P ++ [x] = (T'.take (t + 1)).map (·.1)) := by unfold Hid; rw [map_take_succ _ T' t (x, b) HX.out, HP.out]
              clear hown hbr hb' HP hx64 HX
              go_wp2_with fail
              go_roundw
              case rel => exact ⟨t + 1, C', e', _, by omega, by go_num, rfl, hown', hbw, HP'⟩
              case measure => simp [intOf]; omega
            · go_wp2_with fail
              go_ret
              have htm' : t = m := by omega
              subst htm'
              rw [List.take_of_length_le (by rw [HLT.out]; exact Nat.le_refl _), HT.out, hTT.out] at HP
              have hsz := hb.size
              exact ⟨_, _, _, rfl, (by rw [show reduceL L = P from HP.out.symm]; exact hown.mono hsz), below_chain hb hbr hsz⟩
end

section
open Go.RowKit

set_option maxHeartbeats 800000 in
theorem least1 (a b n c bn bw : Nat) (A : Option Addr) (L : List Int) (w : World) (hA : Ints w A n L) (hfit : ∀ x ∈ L, -1000 ≤ x ∧ x ≤ 1000) (ha : a < n) (hb : b < n) (hle : n ≤ 400)
    (hn : w.cell? ⟨bn, 0, none⟩ = some (.int .i64 (n : Int))) (hw : w.cell? ⟨bw, 0, none⟩ = some (.slice A n c)) :
    Calls Tryd.prog 163 #[.int .i64 a, .int .i64 b, .pointer (some ⟨bn, 0, none⟩), .pointer (some ⟨bw, 0, none⟩)] w fun e w' => e = .returned (.int .i64 (cmpL (rotL L a) (rotL L b))) ∧ Drawn w w' := by
  have HL := Lib.hid hA.len
  have HF := Lib.hid hfit
  clear hfit
  go_enter Tryd.func163, Tryd.ntmps163
  go_wp2_with fail
  go_loopw [11] (fun i wr => ∃ k : Nat, k ≤ n ∧ i = .int .i64 k ∧ Hid (cmpL ((rotL L a).drop k) ((rotL L b).drop k) = cmpL (rotL L a) (rotL L b)) ∧ Drawn w wr) (fun i _ => n - (intOf i).toNat)
  case atStart => exact ⟨0, Nat.zero_le _, rfl, rfl, Drawn.refl w⟩
  case round =>
    obtain ⟨k, hk, rfl, heq, m, rfl⟩ := hrel
    by_cases hlt : k < n
    · obtain ⟨p, hp⟩ : ∃ p, (a + k) % n = p := ⟨_, rfl⟩
      obtain ⟨q, hq⟩ : ∃ q, (b + k) % n = q := ⟨_, rfl⟩
      have hpn : p < n := by subst hp; exact Nat.mod_lt _ (by omega)
      have hqn : q < n := by subst hq; exact Nat.mod_lt _ (by omega)
      have hpi : ((a : Int) + (k : Int)) % (n : Int) = (p : Int) := by subst hp; simp
      have hqi : ((b : Int) + (k : Int)) % (n : Int) = (q : Int) := by subst hq; simp
      obtain ⟨ad, x, rfl, hx, _, _, hc⟩ := hA.at_ hpn
      obtain ⟨y, hy, _, _, hd⟩ := hA.also hqn
      have hX : (rotL L a)[k]? = some x := by rw [rotL_get L (by rw [HL.out]; exact ha) (by rw [HL.out]; exact hlt), HL.out, hp]; exact hx.out
      have hY : (rotL L b)[k]? = some y := by rw [rotL_get L (by rw [HL.out]; exact hb) (by rw [HL.out]; exact hlt), HL.out, hq]; exact hy.out
      obtain ⟨hx1, hx2⟩ := HF.out x (List.mem_of_getElem? hx.out)
      obtain ⟨hy1, hy2⟩ := HF.out y (List.mem_of_getElem? hy.out)
      have HX := Lib.hid hX
      have HY := Lib.hid hY
      clear hp hq hX hY
      have s1 : (0 : Int) ≤ (a : Int) + (k : Int) := by omega
      have s2 : (a : Int) + (k : Int) ≤ 1000 := by omega
      have s3 : (0 : Int) ≤ (b : Int) + (k : Int) := by omega
      have s4 : (b : Int) + (k : Int) ≤ 1000 := by omega
      by_cases hxy : x = y
      · subst hxy
        have hn' := Lib.hid ((cmpL_same HX.out HY.out).symm.trans heq.out)
        go_wp2_with fail
        go_quiet (fail)
        go_wp2_with fail
        go_roundw
        case rel => exact ⟨k + 1, by omega, by go_num, hn', drawn1 _ _⟩
        case measure => simp [intOf]; omega
      · have hf := Lib.hid ((cmpL_diff HX.out HY.out hxy).symm.trans heq.out)
        have hxy' : (x != y) = true := by simpa using hxy
        clear hxy
        go_wp2_with fail
        go_quiet (fail)
        go_wp2_with fail
        go_ret
        exact ⟨ret_int hf.out, drawn1 _ _⟩
    · go_wp2_with fail
      go_ret
      have hkn : k = n := by omega
      subst hkn
      refine ⟨ret_int ?_, drawn1 _ _⟩
      rw [← heq.out, List.drop_of_length_le (by rw [rotL_len _ _ (by rw [HL.out]; omega), HL.out]; exact Nat.le_refl _), cmpL_nil]
set_option maxHeartbeats 800000 in
theorem line_least (A : Option Addr) (n c : Nat) (L : List Int) (w : World) (hA : Ints w A n L) (hfit : ∀ x ∈ L, -1000 ≤ x ∧ x ≤ 1000) (hn0 : 0 < n) (hle : n ≤ 400) (hcap : n ≤ c) :
    Calls Tryd.prog 139 #[.slice A n c] w fun e w' => ∃ A' c', e = .returned (.slice A' n c') ∧ Own w' w.heap.size A' n c' (leastL L) ∧ Below w.heap.size w w' := by
  have HL := Lib.hid hA.len
  have HF := Lib.hid hfit
  clear hfit
  have hmf : ∀ (fn : Fn) (first cap : Array Value) (w : World), (Instr.makeFunc fn first cap).run Tryd.prog w = .ok (.func fn first cap) w := fun _ _ _ _ => rfl
  obtain ⟨W, hW⟩ : ∃ W, W = (w.alloc (.cells #[.slice A n c] 35)).alloc (.cells #[.int .i64 (n : Int)] 3) := ⟨_, rfl⟩
  have hbW : Below w.heap.size w W := by subst hW; exact ((Below.refl _ _).alloc (Nat.le_refl _) _).alloc (by simp) _
  have hAW : Ints W A n L := hA.below hbW
  have hcw : W.cell? ⟨w.heap.size, 0, none⟩ = some (.slice A n c) := by subst hW; rw [World.cell?_alloc_past _ _ _ (by simp), World.cell?_alloc_at _ _ _ _ rfl]; rfl
  have hcn : W.cell? ⟨w.heap.size + 1, 0, none⟩ = some (.int .i64 (n : Int)) := by subst hW; rw [World.cell?_alloc_at _ _ _ _ (by simp)]; rfl
  have HW := Lib.hid hW
  go_enter Tryd.func139, Tryd.ntmps139
  go_wp2_with fail
  rw [← HW.out]
  clear hbW HW
  have hbW : Hid (Below w.heap.size w W) := by subst hW; exact ((Below.refl _ _).alloc (Nat.le_refl _) _).alloc (by simp) _
  clear hW
  go_loopw [4, 6] (fun fr i wr => ∃ k j f : Nat, j = 2 * k + 2 ∧ 2 * k < n ∧ f < n ∧ i = .int .i64 j ∧ fr = .int .i64 f ∧ Hid (f = bestTo L k) ∧ Drawn W wr) (fun _ i _ => (n + 2) - (intOf i).toNat)
  case atStart => exact ⟨0, 2, 0, rfl, by omega, hn0, rfl, rfl, rfl, Drawn.refl W⟩
  case round =>
    obtain ⟨k, j, f, hj, hk, hf, rfl, rfl, HB, hd⟩ := hrel
    have HJ := Lib.hid hj
    have hj1 : j ≤ 2 * k + 2 := by omega
    have hj2 : 2 * k + 2 ≤ j := by omega
    clear hj
    have hcw' : wr.cell? ⟨w.heap.size, 0, none⟩ = some (.slice A n c) := ((hd.below _).cell (World.block_lt_of_cell? W _ hcw)).trans hcw
    have hcn' : wr.cell? ⟨w.heap.size + 1, 0, none⟩ = some (.int .i64 (n : Int)) := ((hd.below _).cell (World.block_lt_of_cell? W _ hcn)).trans hcn
    by_cases hlt : j < n
    · go_wp2_with fail
      refine (least1 j f n _ _ _ A L _ (hAW.drawn hd) HF.out hlt hf hle hcn' hcw').mono ?_
      rintro e w1 ⟨rfl, hd1⟩
      have hd2 := hd.trans hd1
      have hcw1 : w1.cell? ⟨w.heap.size, 0, none⟩ = some (.slice A n c) := ((hd2.below _).cell (World.block_lt_of_cell? W _ hcw)).trans hcw
      have hcn1 : w1.cell? ⟨w.heap.size + 1, 0, none⟩ = some (.int .i64 (n : Int)) := ((hd2.below _).cell (World.block_lt_of_cell? W _ hcn)).trans hcn
      by_cases hneg : cmpL (rotL L j) (rotL L f) < 0
      · have HB' : Hid (j = bestTo L (k + 1)) := by
          unfold Hid; rw [bestTo, ← HB.out, show 2 * (k + 1) = j by omega, if_pos hneg]
        go_wp2_with fail
        go_roundw
        case rel => exact ⟨k + 1, j + 2, j, by omega, by omega, hlt, by go_num, rfl, HB', hd2⟩
        case measure => simp [intOf]; omega
      · have HB' : Hid (f = bestTo L (k + 1)) := by
          unfold Hid; rw [bestTo, ← HB.out, show 2 * (k + 1) = j by omega, if_neg hneg]
        go_wp2_with fail
        go_roundw
        case rel => exact ⟨k + 1, j + 2, f, by omega, by omega, hf, by go_num, rfl, HB', hd2⟩
        case measure => simp [intOf]; omega
    · have hkk : (n - 1) / 2 = k := by omega
      have hA1 := hAW.drawn hd
      have hres : Hid (rotL L f = leastL L) := by
        unfold Hid leastL; rw [HL.out, hkk, HB.out]
      have hbr : Hid (Below w.heap.size w wr) := hbW.out.trans (hd.below _)
      have b0 : (0 : Int) ≤ (f : Int) := by omega
      have b1 : (f : Int) ≤ (n : Int) := by omega
      have b2 : (f : Int) ≤ (c : Int) := by omega
      have hfn : f ≤ n := by omega
      clear hkk HB hd hAW hcw hcn hbW HL
      go_wp2_with fail
      go_region_held3 (fun wx => Below wr.heap.size wr wx ∧ wx.cell? ⟨w.heap.size, 0, none⟩ = some (.slice A n c)) (first | exact keepS hcw' (Below.refl _ _).drew | exact keepT hcw' (by assumption) (by assumption))
        (first
          | ((refine stepS rfl (.const (.slice none 0 0)) (.tmp 23) (by rfl) (by rfl) (Own.nil _ wr.heap.size) (Ints.from (c := c) (hA1.below (And.left (by assumption))) hfn hcap) (by rfl) (by rfl) (n - f) (by omega) (by omega) (Below.size (And.left (by assumption))) ?_; intro A1 c1 w1 hown1 hb1 hg1 hl1))
          | ((refine stepS rfl (.tmp 24) (.tmp 27) (by rfl) (by rfl) hown1 (Ints.to (hA1.below (And.left (by assumption))) hfn) (by rfl) (by rfl) n (by omega) (by omega) (Below.size (And.left (by assumption))) ?_; intro A2 c2 w2 hown2 hb2 hg2 hl2)))
      all_goals
        go_wp2_with fail
        all_goals
          go_ret
          have hsz := hbr.out.size
          exact ⟨_, _, rfl, by rw [← hres.out]; exact (by simpa [rotL] using hown2.mono hsz), below_chain hbr.out (And.left (by assumption)) hsz⟩
end

section
open Go.RowKit

theorem isNaN_any (x : Int) (w : World) : Calls Tryd.prog 173 #[.int .i64 x] w fun e w' => e = .returned (.bool false) ∧ w' = w := by
  go_enter Tryd.func173, Tryd.ntmps173
  go_wp2
  go_ret
  exact ⟨ret_bool (by simp), rfl⟩
def cmpI (x y : Int) : Int := if x < y then -1 else if y < x then 1 else 0
theorem cmp_any (x y : Int) (w : World) : Calls Tryd.prog 164 #[.int .i64 x, .int .i64 y] w fun e w' => e = .returned (.int .i64 (cmpI x y)) ∧ w' = w := by
  by_cases h1 : x < y
  · have hf := Lib.hid (show cmpI x y = -1 by unfold cmpI; rw [if_pos h1])
    go_enter Tryd.func164, Tryd.ntmps164
    go_wp2_with (first | (go_at_call 173; refine (isNaN_any _ _).mono ?_; rintro e w' ⟨rfl, rfl⟩))
    go_ret
    exact ⟨ret_int hf.out.symm, rfl⟩
  · by_cases h2 : y < x
    · have hf := Lib.hid (show cmpI x y = 1 by unfold cmpI; rw [if_neg h1, if_pos h2])
      go_enter Tryd.func164, Tryd.ntmps164
      go_wp2_with (first | (go_at_call 173; refine (isNaN_any _ _).mono ?_; rintro e w' ⟨rfl, rfl⟩))
      go_ret
      exact ⟨ret_int hf.out.symm, rfl⟩
    · have hf := Lib.hid (show cmpI x y = 0 by unfold cmpI; rw [if_neg h1, if_neg h2])
      go_enter Tryd.func164, Tryd.ntmps164
      go_wp2_with (first | (go_at_call 173; refine (isNaN_any _ _).mono ?_; rintro e w' ⟨rfl, rfl⟩))
      go_ret
      exact ⟨ret_int hf.out.symm, rfl⟩
theorem cmpS_same {x : Int} {A B : List Int} {i : Nat} (ha : A[i]? = some x) (hb : B[i]? = some x) : cmpS (A.drop i) (B.drop i) = cmpS (A.drop (i + 1)) (B.drop (i + 1)) := by
  obtain ⟨h1, e1⟩ := List.getElem?_eq_some_iff.1 ha
  obtain ⟨h2, e2⟩ := List.getElem?_eq_some_iff.1 hb
  rw [List.drop_eq_getElem_cons h1, List.drop_eq_getElem_cons h2, e1, e2, cmpS, if_neg (by omega), if_neg (by omega)]
theorem cmpS_diff {x y : Int} {A B : List Int} {i : Nat} (ha : A[i]? = some x) (hb : B[i]? = some y) (h : x ≠ y) : cmpS (A.drop i) (B.drop i) = cmpI x y ∧ cmpI x y ≠ 0 := by
  obtain ⟨h1, e1⟩ := List.getElem?_eq_some_iff.1 ha
  obtain ⟨h2, e2⟩ := List.getElem?_eq_some_iff.1 hb
  rw [List.drop_eq_getElem_cons h1, List.drop_eq_getElem_cons h2, e1, e2, cmpS]
  unfold cmpI
  by_cases h3 : x < y
  · rw [if_pos h3, if_pos h3]; exact ⟨rfl, by decide⟩
  · rw [if_neg h3, if_neg h3, if_pos (by omega), if_pos (by omega)]; exact ⟨rfl, by decide⟩

set_option maxHeartbeats 800000 in
/-- At two lists of one length. -/
theorem slices_compare (A B : Option Addr) (n c d : Nat) (L M : List Int) (w : World) (hA : Ints w A n L) (hB : Ints w B n M) :
    Calls Tryd.prog 141 #[.slice A n c, .slice B n d] w fun e w' => e = .returned (.int .i64 (cmpS L M)) ∧ w' = w := by
  have hle := hA.le
  have HL := Lib.hid hA.len
  have HM := Lib.hid hB.len
  go_enter Tryd.func141, Tryd.ntmps141
  go_wp2_with fail
  go_loop [11] (fun i => ∃ k : Nat, k ≤ n ∧ i = .int .i64 k ∧ Hid (cmpS (L.drop k) (M.drop k) = cmpS L M)) (fun i => n - (intOf i).toNat)
  case atStart => exact ⟨0, Nat.zero_le _, rfl, rfl⟩
  case round =>
    obtain ⟨k, hk, rfl, heq⟩ := hrel
    by_cases hlt : k < n
    · obtain ⟨ad, x, rfl, hx, hx1, hx2, hc⟩ := hA.at_ hlt
      obtain ⟨bd, y, rfl, hy, hy1, hy2, hd⟩ := hB.at_ hlt
      by_cases hxy : x = y
      · subst hxy
        have hn' := Lib.hid ((cmpS_same hx.out hy.out).symm.trans heq.out)
        have h0 : cmpI x x = 0 := by unfold cmpI; rw [if_neg (by omega), if_neg (by omega)]
        go_wp2_with (first | (go_at_call 164; refine (cmp_any _ _ _).mono ?_; rintro e w' ⟨rfl, rfl⟩))
        go_round
        case rel => exact ⟨k + 1, by omega, by go_num, hn'⟩
        case measure => simp [intOf]; omega
      · obtain ⟨h1, h2⟩ := cmpS_diff hx.out hy.out hxy
        have hf := Lib.hid (h1.symm.trans heq.out)
        have h2' : (cmpI x y != 0) = true := by simpa using h2
        clear h1 h2 hxy
        go_wp2_with (first | (go_at_call 164; refine (cmp_any _ _ _).mono ?_; rintro e w' ⟨rfl, rfl⟩))
        go_ret
        exact ⟨ret_int hf.out, rfl⟩
    · go_wp2_with fail
      go_ret
      have hkn : k = n := by omega
      subst hkn
      refine ⟨ret_int ?_, rfl⟩
      rw [← heq.out, List.drop_of_length_le (by rw [HL.out]; exact Nat.le_refl _), List.drop_of_length_le (by rw [HM.out]; exact Nat.le_refl _)]
      rfl

set_option maxHeartbeats 800000 in
theorem slices_equal (A B : Option Addr) (n m c d : Nat) (L M : List Int) (w : World) (hA : Ints w A n L) (hB : Ints w B m M) :
    Calls Tryd.prog 112 #[.slice A n c, .slice B m d] w fun e w' => e = .returned (.bool (L == M)) ∧ Drawn w w' := by
  have hle := hA.le
  have hle' := hB.le
  have HL := Lib.hid hA.len
  have HM := Lib.hid hB.len
  by_cases hnm : n = m
  · subst hnm
    go_enter Tryd.func112, Tryd.ntmps112
    go_wp2
    go_loopw [13] (fun i wr => ∃ k : Nat, k ≤ n ∧ i = .int .i64 k ∧ Hid (L.take k = M.take k) ∧ Drawn w wr) (fun i _ => n - (intOf i).toNat)
    case atStart => exact ⟨0, Nat.zero_le _, rfl, by simp [Hid], Drawn.refl w⟩
    case round =>
      obtain ⟨k, hk, rfl, heq, m, rfl⟩ := hrel
      by_cases hlt : k < n
      · obtain ⟨ad, x, rfl, hx, hx1, hx2, hc⟩ := hA.at_ hlt
        obtain ⟨bd, y, rfl, hy, hy1, hy2, hd⟩ := hB.at_ hlt
        by_cases hxy : x = y
        · subst hxy
          go_wp2
          go_quiet (fail)
          go_wp2
          go_roundw
          case rel => exact ⟨k + 1, by omega, by go_num, by unfold Hid; rw [List.take_add_one, List.take_add_one, heq.out, hx.out, hy.out], drawn1 _ _⟩
          case measure => simp [intOf]; omega
        · have hf := Lib.hid (show (L == M) = false by
            rw [beq_eq_false_iff_ne]; intro e; subst e; rw [hx.out] at hy; exact hxy (Option.some.inj hy.out))
          have hxy' : (x != y) = true := by simpa using hxy
          clear hxy
          go_wp2
          go_quiet (fail)
          go_wp2
          go_ret
          exact ⟨ret_bool hf.out.symm, by first | exact drawn2 _ _ _ | exact drawn1 _ _⟩
      · go_wp2
        go_ret
        refine ⟨ret_bool ?_, m, rfl⟩
        have h := heq.out
        rw [List.take_of_length_le (by rw [HL.out]; omega), List.take_of_length_le (by rw [HM.out]; omega)] at h
        rw [h]; simp
  · have hf := Lib.hid (show (L == M) = false by
      rw [beq_eq_false_iff_ne]; intro e; subst e; exact hnm (HL.out.symm.trans HM.out))
    go_enter Tryd.func112, Tryd.ntmps112
    go_wp2
    go_ret
    exact ⟨ret_bool hf.out.symm, Drawn.refl w⟩

theorem of_errW {L : List Int} (h : errW L = 0) : wordB L = true := by
  unfold errW at h
  by_cases h1 : 400 < L.length
  · rw [if_pos h1] at h; cases h
  · rw [if_neg h1] at h
    cases hv : wordB L
    · rw [hv] at h; cases h
    · rfl

set_option maxHeartbeats 800000 in
theorem line_normal_ (A : Option Addr) (n c : Nat) (L : List Int) (w : World) (hA : Ints w A n L) (hn : n ≤ 400) (h40 : In40 L) :
    Calls Tryd.prog 111 #[.slice A n c] w fun e w' => ∃ A' m c', e = .returned (.slice A' m c') ∧ Own w' w.heap.size A' m c' (normalL L) ∧ Below w.heap.size w w' := by
  have hr40 : Hid (∀ x ∈ reduceL L, -1000 ≤ x ∧ x ≤ 1000) := fun x hx => by have := h40 x (mem_reduceL hx); omega
  have hr41 : Hid (∀ x ∈ (reduceL L).reverse, -1000 ≤ x ∧ x ≤ 1000) := fun x hx => hr40.out x (List.mem_reverse.1 hx)
  have hrl : Hid ((reduceL L).length ≤ 400) := Nat.le_trans (reduceL_len L) (by rw [hA.len]; exact hn)
  clear h40
  go_enter Tryd.func111, Tryd.ntmps111
  go_wp2_with fail
  refine (line_reduce _ _ _ _ _ hA hn).mono ?_
  rintro e w1 ⟨A1, m, c1, rfl, hown, hb⟩
  have hml : m ≤ 400 := by have := hrl.out; rw [hown.len] at this; exact this
  rcases Nat.eq_zero_or_pos m with h0 | h0
  · subst h0
    have hnil : Hid (normalL L = []) := by
      have : reduceL L = [] := List.eq_nil_of_length_eq_zero hown.len
      unfold Hid normalL; rw [if_pos this]
    go_wp2_with fail
    go_ret
    exact ⟨_, _, _, rfl, by rw [hnil.out]; exact Own.nil _ _, hb⟩
  · have hm0 : ((m : Int) == 0) = false := by simp; omega
    have hne : Hid (reduceL L ≠ []) := by intro e; have := hown.len; rw [e] at this; simp at this; omega
    have hcap := hown.cap
    have hI1 := hown.ints
    go_wp2_with fail
    refine (line_least _ _ _ _ _ hI1 hr40.out h0 hml hcap).mono ?_
    rintro e w2 ⟨A2, c2, rfl, hown2, hb2⟩
    have hI1' := hI1.below hb2
    go_wp2_with fail
    refine (line_reverse_ _ _ _ _ _ hI1').mono ?_
    rintro e w3 ⟨A3, c3, rfl, hown3, hb3⟩
    have hown2' := hown2.below hb3
    have hcap3 := hown3.cap
    go_wp2_with fail
    refine (line_least _ _ _ _ _ hown3.ints hr41.out h0 hml hcap3).mono ?_
    rintro e w4 ⟨A4, c4, rfl, hown4, hb4⟩
    have hown2'' := hown2'.below hb4
    have hb24 := hb2.trans (hb3.mono hb2.size)
    have hbA : Below w.heap.size w w4 := (hb.trans (hb2.mono hb.size)).trans ((hb3.trans (hb4.mono hb3.size)).mono (Nat.le_trans hb.size hb2.size))
    have hs1 := hb.size
    have hs2 := Nat.le_trans hs1 (Nat.le_trans hb2.size hb3.size)
    have hI4 := hown4.ints
    have hI2 := hown2''.ints
    have hf4 := hown4.mono hs2
    have hf2 := hown2''.mono hs1
    by_cases hneg : cmpS (leastL (reduceL L).reverse) (leastL (reduceL L)) < 0
    · have hres : Hid (normalL L = leastL (reduceL L).reverse) := by unfold Hid normalL; rw [if_neg hne.out, if_pos hneg]
      clear hb hb2 hb3 hb4 hb24 hown hown2 hown2' hown3 hI1 hI1'
      go_wp2_with (first | (go_at_call 141; refine (slices_compare _ _ _ _ _ _ _ _ hI4 hI2).mono ?_; rintro e w' ⟨rfl, rfl⟩))
      go_ret
      exact ⟨_, _, _, rfl, by rw [hres.out]; exact hf4, hbA⟩
    · have hres : Hid (normalL L = leastL (reduceL L)) := by unfold Hid normalL; rw [if_neg hne.out, if_neg hneg]
      clear hb hb2 hb3 hb4 hb24 hown hown2 hown2' hown3 hI1 hI1'
      go_wp2_with (first | (go_at_call 141; refine (slices_compare _ _ _ _ _ _ _ _ hI4 hI2).mono ?_; rintro e w' ⟨rfl, rfl⟩))
      go_ret
      exact ⟨_, _, _, rfl, by rw [hres.out]; exact hf2, hbA⟩

set_option maxHeartbeats 400000 in
theorem line_Normal (A : Option Addr) (n c : Nat) (L : List Int) (w : World) (hA : Ints w A n L) :
    Calls Tryd.prog 67 #[.slice A n c] w (Gives w (okL (errW L) (normalL L)) (errW L)) := by
  have hb1 : Below w.heap.size w (w.alloc (.cells #[.slice A n c] 35)) := (Below.refl _ _).alloc (Nat.le_refl _) _
  by_cases h : errW L = 0
  · rw [okL_yes h, h]
    have HE := Lib.hid h
    have hw := of_errW h
    have h400 : n ≤ 400 := by rw [← hA.len]; exact (len_of_wordB hw).1
    have h40 := Lib.hid (in40_of_wordB hw)
    clear h hw
    go_enter Tryd.func67, Tryd.ntmps67
    go_wp2_with fail
    refine (line_check _ _ _ _ _ (many_one hA) rfl (by simp)).mono ?_
    rintro e w' ⟨rfl, rfl⟩
    rw [errs_one, HE.out]
    go_wp2_with fail
    refine (line_normal_ _ _ _ _ _ (hA.alloc _) h400 h40.out).mono ?_
    rintro e w1 ⟨A1, m1, c1, rfl, hown, hb⟩
    have hb2 := below_chain hb1 hb hb1.size
    have hown2 := hown.mono hb1.size
    clear hb1 hb hown
    go_wp2_with fail
    go_ret2
    exact gives_own hown2 rfl hb2
  · rw [okL_no h]
    have hne : (errW L != 0) = true := by simpa using h
    have HE := Lib.hid (errs_one A n c L)
    clear h
    obtain ⟨er, her⟩ : ∃ er, er = errW L := ⟨_, rfl⟩
    rw [← her] at hne ⊢
    rw [← her] at HE
    clear her
    go_enter Tryd.func67, Tryd.ntmps67
    go_wp2_with fail
    refine (line_check _ _ _ _ _ (many_one hA) rfl (by simp)).mono ?_
    rintro e w' ⟨rfl, rfl⟩
    rw [HE.out]
    go_wp2_with fail
    go_ret2
    exact gives_nil rfl hb1
end

section
open Go.RowKit

/-- A list that is half changed. -/
def halfL (f : Int → Int) (L : List Int) (k : Nat) : List Int := (L.take k).map f ++ L.drop k
theorem halfL_get {f : Int → Int} {L : List Int} {k : Nat} (hk : k ≤ L.length) : (halfL f L k)[k]? = L[k]? := by
  unfold halfL
  rw [List.getElem?_append_right (by simp; omega), List.length_map, List.length_take, List.getElem?_drop]
  congr 1; omega
theorem halfL_succ {f : Int → Int} {L : List Int} {k : Nat} {x : Int} (hx : L[k]? = some x) : (halfL f L k).set k (f x) = halfL f L (k + 1) := by
  obtain ⟨hk, e⟩ := List.getElem?_eq_some_iff.1 hx
  unfold halfL
  rw [List.drop_eq_getElem_cons hk, e, List.take_add_one, hx]
  rw [List.set_append_right _ _ (by simp; omega), List.length_map, List.length_take]
  rw [show k - min k L.length = 0 by omega]
  simp
theorem halfL_same {f : Int → Int} {L : List Int} {k : Nat} {x : Int} (hx : L[k]? = some x) (hf : f x = x) : halfL f L k = halfL f L (k + 1) := by
  obtain ⟨hk, e⟩ := List.getElem?_eq_some_iff.1 hx
  unfold halfL
  rw [List.drop_eq_getElem_cons hk, e, List.take_add_one, hx]
  simp [hf]
theorem halfL_end {f : Int → Int} {L : List Int} {k : Nat} (hk : L.length ≤ k) : halfL f L k = L.map f := by
  unfold halfL
  rw [List.take_of_length_le hk, List.drop_of_length_le hk, List.append_nil]

/-- line.Forget's error. -/
def errG (k : Int) (L : List Int) (f : Int) : Int := if errF k L = 0 then (if 1 ≤ f ∧ f ≤ k then 0 else 2) else errF k L
theorem in40_drop {L : List Int} {f : Int} (h : In40 L) (hf : 1 ≤ f) : In40 (L.map (dropG f)) := by
  intro x hx
  obtain ⟨y, hy, rfl⟩ := List.mem_map.1 hx
  have := h y hy
  unfold dropG; split <;> omega

set_option maxHeartbeats 800000 in
theorem line_Forget (K f : Int) (A : Option Addr) (n c : Nat) (L : List Int) (w : World) (hA : Ints w A n L) :
    Calls Tryd.prog 66 #[.int .i64 K, .slice A n c, .int .i64 f] w (Gives w (okL (errG K L f) (normalL (L.map (dropG f)))) (errG K L f)) := by
  have hle := hA.le
  have HL := Lib.hid hA.len
  by_cases h : errF K L = 0
  · have hv := of_errF h
    obtain ⟨hK1, hK2⟩ := k_of_validB hv
    have h40 := Lib.hid (in40_of_wordB (wordB_of_validB hv))
    have hn400 : n ≤ 400 := by rw [← HL.out]; exact (len_of_wordB (wordB_of_validB hv)).1
    clear hv
    by_cases hf1 : 1 ≤ f
    · by_cases hf2 : f ≤ K
      · have he : errG K L f = 0 := by unfold errG; rw [if_pos h, if_pos ⟨hf1, hf2⟩]
        rw [okL_yes he, he]
        clear he
        go_enter Tryd.func66, Tryd.ntmps66
        go_wp2_with (first | (go_at_call 109; refine (line_checkFor _ _ _ _ _ _ hA).mono ?_; rintro e w' ⟨rfl, rfl⟩))
        refine (slices_clone _ _ _ _ _ hA).mono ?_
        rintro e w1 ⟨A1, c1, rfl, hown, hb⟩
        clear h
        go_wp2_with fail
        go_loopw [29] (fun i wr => ∃ (k : Nat) (P : List Int), k ≤ n ∧ i = .int .i64 k ∧ Own wr w'.heap.size A1 n c1 P ∧ Below w'.heap.size w' wr ∧ Hid (P = halfL (dropG f) L k)) (fun i _ => n - (intOf i).toNat)
        case atStart => exact ⟨0, _, Nat.zero_le _, rfl, hown, hb, by unfold Hid halfL; simp⟩
        case round =>
          clear hown hb
          obtain ⟨k, P, hk, rfl, hown, hb, HP⟩ := hrel
          by_cases hlt : k < n
          · obtain ⟨g, rfl, hg1, hg2⟩ := hown.form (by omega)
            have hx : L[k]? = some (L[k]'(by rw [HL.out]; exact hlt)) := List.getElem?_eq_getElem _
            obtain ⟨x, hxe⟩ : ∃ x, x = L[k]'(by rw [HL.out]; exact hlt) := ⟨_, rfl⟩
            rw [← hxe] at hx
            have hPx : P[k]? = some x := by rw [HP.out, halfL_get (by rw [HL.out]; exact hk), hx]
            have hc := hown.cell hPx
            have hfr := hown.free k
            obtain ⟨hx3, hx4⟩ := h40.out.at_ hx
            have HX := Lib.hid hx
            clear hx hxe hPx
            by_cases hfx : f ≤ x
            · have hst := hown.stored k (x := x - 1) ⟨by omega, by omega⟩
              have hbw : Below w'.heap.size w' (wr.setCell ⟨g, k, none⟩ (.int .i64 (x - 1))) := hb.setCell hg1 _
              have HP' : Hid (P.set k (x - 1) = halfL (dropG f) L (k + 1)) := by
                unfold Hid; rw [HP.out, ← halfL_succ HX.out]; congr 1; unfold dropG; rw [if_pos hfx]
              clear hown hb HP HX
              go_wp2_with fail
              go_roundw
              case rel => exact ⟨k + 1, _, by omega, by go_num, hst, hbw, HP'⟩
              case measure => simp [intOf]; omega
            · have HP' : Hid (P = halfL (dropG f) L (k + 1)) := by
                unfold Hid; rw [HP.out, halfL_same HX.out (by unfold dropG; rw [if_neg hfx])]
              clear HP HX
              go_wp2_with fail
              go_roundw
              case rel => exact ⟨k + 1, _, by omega, by go_num, hown, hb, HP'⟩
              case measure => simp [intOf]; omega
          · have hkn : k = n := by omega
            subst hkn
            have hfin := HP.out
            rw [halfL_end (by rw [HL.out]; exact Nat.le_refl _)] at hfin
            subst hfin
            have hI := hown.ints
            clear HP
            go_wp2_with fail
            refine (line_normal_ _ _ _ _ _ hI hn400 (in40_drop h40.out hf1)).mono ?_
            rintro e w2 ⟨A2, m2, c2, rfl, hown2, hb2⟩
            have hbw := below_chain hb hb2 hb.size
            have hown3 := hown2.mono hb.size
            clear hown hb hb2 hown2 hI
            go_wp2_with fail
            go_ret2
            exact gives_own hown3 rfl hbw
      · have he : errG K L f = 2 := by unfold errG; rw [if_pos h, if_neg (by omega)]
        rw [okL_no (by rw [he]; decide), he]
        clear he
        go_enter Tryd.func66, Tryd.ntmps66
        go_wp2_with (first | (go_at_call 109; refine (line_checkFor _ _ _ _ _ _ hA).mono ?_; rintro e w' ⟨rfl, rfl⟩))
        go_ret2
        exact gives_nil rfl (Below.refl _ _)
    · have he : errG K L f = 2 := by unfold errG; rw [if_pos h, if_neg (by omega)]
      rw [okL_no (by rw [he]; decide), he]
      clear he
      go_enter Tryd.func66, Tryd.ntmps66
      go_wp2_with (first | (go_at_call 109; refine (line_checkFor _ _ _ _ _ _ hA).mono ?_; rintro e w' ⟨rfl, rfl⟩))
      go_ret2
      exact gives_nil rfl (Below.refl _ _)
  · have he : errG K L f = errF K L := by unfold errG; rw [if_neg h]
    rw [he, okL_no h]
    have hne : (errF K L != 0) = true := by simpa using h
    clear h he
    go_enter Tryd.func66, Tryd.ntmps66
    go_wp2_with (first | (go_at_call 109; refine (line_checkFor _ _ _ _ _ _ hA).mono ?_; rintro e w' ⟨rfl, rfl⟩))
    go_ret2
    exact gives_nil rfl (Below.refl _ _)
theorem many_two {w : World} {A B : Option Addr} {n c m d : Nat} {L M : List Int} {t : TypeId} (hA : Ints w A n L) (hB : Ints w B m M) :
    Many (w.alloc (.cells #[.slice A n c, .slice B m d] t)) ⟨w.heap.size, 0, none⟩ [⟨A, n, c, L⟩, ⟨B, m, d, M⟩] := by
  intro j s hs
  match j, hs with
  | 0, hs =>
    simp only [List.getElem?_cons_zero, Option.some.injEq] at hs
    subst hs
    exact ⟨by rw [Addr.add_lit, World.cell?_alloc_at _ _ _ _ rfl]; rfl, hA.alloc _⟩
  | 1, hs =>
    simp only [List.getElem?_cons_succ, List.getElem?_cons_zero, Option.some.injEq] at hs
    subst hs
    exact ⟨by rw [Addr.add_lit, World.cell?_alloc_at _ _ _ _ rfl]; rfl, hB.alloc _⟩
def errS (L M : List Int) : Int := if errW L = 0 then errW M else errW L
theorem errs_two (A B : Option Addr) (n c m d : Nat) (L M : List Int) : errs [⟨A, n, c, L⟩, ⟨B, m, d, M⟩] = errS L M := by
  unfold errs errS
  simp only
  split
  · exact errs_one _ _ _ _
  · rfl
/-- Whether two words have one normal form. -/
def sameB (L M : List Int) : Bool := normalL L == normalL M

set_option maxHeartbeats 400000 in
theorem line_Same (A B : Option Addr) (n c m d : Nat) (L M : List Int) (w : World) (hA : Ints w A n L) (hB : Ints w B m M) :
    Calls Tryd.prog 70 #[.slice A n c, .slice B m d] w fun e w' =>
      e = .returned (.tuple #[.bool (if errS L M = 0 then sameB L M else false), .int .i64 (errS L M)]) ∧ Below w.heap.size w w' := by
  have hb1 : Below w.heap.size w (w.alloc (.cells #[.slice A n c, .slice B m d] 35)) := (Below.refl _ _).alloc (Nat.le_refl _) _
  by_cases h : errS L M = 0
  · have HE := Lib.hid (show errs [⟨A, n, c, L⟩, ⟨B, m, d, M⟩] = 0 by rw [errs_two]; exact h)
    rw [if_pos h, h]
    have hL : errW L = 0 := by unfold errS at h; split at h <;> assumption
    have hM : errW M = 0 := by unfold errS at h; rw [if_pos hL] at h; exact h
    have hwL := of_errW hL
    have hwM := of_errW hM
    have h400 : n ≤ 400 := by rw [← hA.len]; exact (len_of_wordB hwL).1
    have h401 : m ≤ 400 := by rw [← hB.len]; exact (len_of_wordB hwM).1
    have h40 := Lib.hid (in40_of_wordB hwL)
    have h41 := Lib.hid (in40_of_wordB hwM)
    clear h hL hM hwL hwM
    go_enter Tryd.func70, Tryd.ntmps70
    go_wp2_with fail
    refine (line_check _ _ _ _ _ (many_two hA hB) rfl (by simp)).mono ?_
    rintro e w' ⟨rfl, hw⟩
    rw [HE.out]
    have hA1 : Ints w' A n L := by rw [hw]; exact hA.alloc _
    have hB1 : Ints w' B m M := by rw [hw]; exact hB.alloc _
    have hbw : Below w.heap.size w w' := by rw [hw]; exact hb1
    clear hw hb1
    go_wp2_with fail
    refine (line_normal_ _ _ _ _ _ hA1 h400 h40.out).mono ?_
    rintro e w1 ⟨A1, m1, c1, rfl, hown1, hb1⟩
    have hB2 := hB1.below hb1
    go_wp2_with fail
    refine (line_normal_ _ _ _ _ _ hB2 h401 h41.out).mono ?_
    rintro e w2 ⟨A2, m2, c2, rfl, hown2, hb2⟩
    have hI1 := (hown1.below hb2).ints
    have hI2 := hown2.ints
    have hball := below_chain (below_chain hbw hb1 hbw.size) hb2 (Nat.le_trans hbw.size hb1.size)
    clear hbw hb1 hb2 hown1 hown2 hB1 hB2 hA1
    go_wp2_with fail
    refine (slices_equal _ _ _ _ _ _ _ _ _ hI1 hI2).mono ?_
    rintro e w3 ⟨rfl, hd⟩
    have hb3 := hball.trans (hd.below _)
    clear hball hd
    go_wp2_with fail
    go_ret2
    exact ⟨rfl, hb3⟩
  · rw [if_neg h]
    have HE := Lib.hid (errs_two A B n c m d L M)
    have hne : (errS L M != 0) = true := by simpa using h
    clear h
    go_enter Tryd.func70, Tryd.ntmps70
    go_wp2_with fail
    refine (line_check _ _ _ _ _ (many_two hA hB) rfl (by simp)).mono ?_
    rintro e w' ⟨rfl, rfl⟩
    rw [HE.out]
    go_wp2_with fail
    go_ret2
    exact ⟨rfl, hb1⟩
end
end Go.Proofs.YtkjcmppaapbabaaDoor
