/-
  Contract: line.reduce. Conditions: the slice reads as a list of at most 400 ints.
-/
import Derived.Test.YtpdkonpnhalecaaDoorJA
import Derived.Test.YtpdkonpnhalecaaDoorRow
import Derived.Test.YtpdkonpnhalecaaDoorP1
import Derived.Deep.DeepCutAuto
import Derived.Deep.CutBlock
namespace Go.Proofs.YtpdkonpnhalecaaDoor
open Go.RowKit

/-- The cells of a stack of letters. -/
def lcells (S : List (Int × Bool)) : List Value := S.flatMap fun x => [.int .i64 x.1, .bool x.2]
theorem lcells_nil : lcells [] = [] := rfl
theorem lcells_cons (x : Int × Bool) (S : List (Int × Bool)) : lcells (x :: S) = .int .i64 x.1 :: .bool x.2 :: lcells S := rfl
theorem lcells_len (S : List (Int × Bool)) : (lcells S).length = S.length * 2 := by
  induction S with
  | nil => rfl
  | cons x S ih => rw [lcells_cons]; simp [ih]; omega
theorem lcells_append (S T : List (Int × Bool)) : lcells (S ++ T) = lcells S ++ lcells T := by simp [lcells]
theorem lcells_get (S : List (Int × Bool)) : ∀ (k : Nat) (x : Int × Bool), S[k]? = some x → (lcells S)[k * 2]? = some (.int .i64 x.1) ∧ (lcells S)[k * 2 + 1]? = some (.bool x.2) := by
  induction S with
  | nil => intro k x h; simp at h
  | cons y S ih =>
    intro k x h
    rw [lcells_cons]
    cases k with
    | zero => simp at h; subst h; exact ⟨rfl, rfl⟩
    | succ k =>
      simp only [List.getElem?_cons_succ] at h
      have := ih k x h
      rw [show (k + 1) * 2 = k * 2 + 1 + 1 by omega]
      simpa using this
theorem lcells_take (S : List (Int × Bool)) : ∀ k, (lcells S).take (k * 2) = lcells (S.take k) := by
  induction S with
  | nil => intro k; simp [lcells_nil]
  | cons y S ih =>
    intro k
    cases k with
    | zero => simp [lcells_nil]
    | succ k =>
      rw [lcells_cons, show (k + 1) * 2 = k * 2 + 1 + 1 by omega, List.take_succ_cons, List.take_succ_cons, ih, List.take_succ_cons, lcells_cons]
theorem lcells_drop (S : List (Int × Bool)) : ∀ k, (lcells S).drop (k * 2) = lcells (S.drop k) := by
  induction S with
  | nil => intro k; simp [lcells_nil]
  | cons y S ih =>
    intro k
    cases k with
    | zero => simp
    | succ k =>
      rw [lcells_cons, show (k + 1) * 2 = k * 2 + 1 + 1 by omega, List.drop_succ_cons, List.drop_succ_cons, ih, List.drop_succ_cons]
theorem lcells_one (S : List (Int × Bool)) : ∀ u ∈ lcells S, u.oneCell' = true := by
  intro u hu
  unfold lcells at hu
  rw [List.mem_flatMap] at hu
  obtain ⟨x, _, hx⟩ := hu
  simp at hx
  rcases hx with rfl | rfl <;> rfl

structure Stk (w : World) (base : Nat) (A : Option Addr) (n c : Nat) (S : List (Int × Bool)) : Prop where
  row : Row w base 2 A n c (lcells S)
  len : S.length = n
  fits : ∀ y ∈ S, I64 y.1
theorem letterInfo : (Tryd.prog.info? 85).map (fun i => (i.zero, i.size, i.bytes)) = some (some (.agg #[.int .i64 0, .bool false]), 2, 16) := by kernel_rfl

theorem fits_push {S : List (Int × Bool)} {g : Int} {b : Bool} (h : ∀ y ∈ S, I64 y.1) (hg : I64 g) : ∀ y ∈ S ++ [(g, b)], I64 y.1 := by
  intro y hy
  rcases List.mem_append.1 hy with hy | hy
  · exact h y hy
  · simp at hy; subst hy; exact hg
theorem pushStk {w : World} {ops : Array Oper} {rest : List Oper} {o : Oper} {a : Act} {Q : Exit → Act → World → Prop} (hgd : o.guard = none) (s x : Operand)
    (ho : o.op = .call { callee := .builtin .append, args := #[s, x], argTypes := #[83, 83] })
    {base : Nat} {A : Option Addr} {n c : Nat} {S : List (Int × Bool)} (hst : Stk w base A n c S) (g : Int) (hg64 : I64 g) (b : Bool) (hs : a.eval s = .slice A n c)
    (hx : a.eval x = .slice (some ⟨w.heap.size, 0, none⟩) 1 1) (N : Nat) (hN : n + 1 = N) (hn : N ≤ 1000) (hbase : base ≤ w.heap.size)
    (h : ∀ A' c' w', Stk w' base A' N c' (S ++ [(g, b)]) → Below base w w' → wpList Tryd.prog ops Q rest (a.put o.dst (.slice A' N c')) w') :
    wpList Tryd.prog ops Q (o :: rest) a (w.alloc (.cells #[.int .i64 g, .bool b] 85)) := by
  obtain ⟨i0, hi, hz0, hz1, hz2⟩ := info_parts letterInfo
  refine appR hgd s x 83 ho 85 i0 _ 2 16 Tryd.underlying83 hi hz0 hz1 hz2 rfl (by decide) (hst.row.alloc _) (Src.new (m := 1) (cs := [.int .i64 g, .bool b]) rfl)
    (by intro u hu; simp at hu; rcases hu with rfl | rfl <;> rfl) hs hx N hN (by unfold maxLen; omega) (by omega) (by simp; omega) ?_
  intro A' c' w' h1 h2 _ _
  refine h A' c' w' ⟨by rw [lcells_append]; exact h1, by rw [List.length_append, hst.len]; exact hN, fits_push hst.fits hg64⟩ ?_
  exact ((Below.refl _ _).alloc hbase _).trans ((hst.row.alloc _).belowOf h2 (by simp; omega))
theorem Stk.drewN {w : World} {base n c : Nat} {A : Option Addr} {S : List (Int × Bool)} (h : Stk w base A n c S) (k : Nat) : Stk (w.drewN k) base A n c S := ⟨h.row.drewN k, h.len, h.fits⟩
theorem Stk.below {w w' : World} {base n c : Nat} {A : Option Addr} {S : List (Int × Bool)} (h : Stk w base A n c S) (hb : Below w.heap.size w w') : Stk w' base A n c S := ⟨h.row.below hb, h.len, h.fits⟩
theorem stepStk {w : World} {ops : Array Oper} {o : Oper} {a : Act} {K : Act → World → Prop} {Q : Exit → Act → World → Prop} {E : Prop} (hgd : o.guard = none) (s x : Operand)
    (ho : o.op = .call { callee := .builtin .append, args := #[s, x], argTypes := #[83, 83] })
    {base : Nat} {A : Option Addr} {n c : Nat} {S : List (Int × Bool)} (hst : Stk w base A n c S) (g : Int) (hg64 : I64 g) (b : Bool) (hs : a.eval s = .slice A n c) {B : Option Addr}
    (hx : a.eval x = .slice B 1 1) (hsrc : Src w 2 B 1 [.int .i64 g, .bool b]) (N : Nat) (hN : n + 1 = N) (hn : N ≤ 1000) (hbase : base ≤ w.heap.size)
    (h : ∀ A' c' w', Stk w' base A' N c' (S ++ [(g, b)]) → Below base w w' → Olds w w' A (n * 2) (c < N) → K (a.put o.dst (.slice A' N c')) w') :
    if Region.wanted o (yielded ops a.tmps) = true then Oper.wp Tryd.prog o a w K Q else E := by
  obtain ⟨i0, hi, hz0, hz1, hz2⟩ := info_parts letterInfo
  refine stepR hgd s x 83 ho 85 i0 _ 2 16 Tryd.underlying83 hi hz0 hz1 hz2 rfl (by decide) hst.row hsrc
    (by intro u hu; simp at hu; rcases hu with rfl | rfl <;> rfl) hs hx N hN (by unfold maxLen; omega) (by omega) hbase ?_
  intro A' c' w' h1 h2 _ h4
  exact h A' c' w' ⟨by rw [lcells_append]; exact h1, by rw [List.length_append, hst.len]; exact hN, fits_push hst.fits hg64⟩ (hst.row.belowOf h2 hbase) h4
theorem keepB {w wx : World} {a b : Addr} {u v : Value} (ha : w.cell? a = some u) (hb : w.cell? b = some v) (h : Below w.heap.size w wx) : Below w.heap.size w wx ∧ wx.cell? a = some u ∧ wx.cell? b = some v :=
  ⟨h, (h.cell (World.block_lt_of_cell? w a ha)).trans ha, (h.cell (World.block_lt_of_cell? w b hb)).trans hb⟩
/-- The letter at k. -/
theorem Stk.at_ {w : World} {base n c g off k : Nat} {S : List (Int × Bool)} (h : Stk w base (some ⟨g, off, none⟩) n c S) (hk : k < n) :
    ∃ x b, S[k]? = some (x, b) ∧ w.cell? ⟨g, off + k * 2, none⟩ = some (.int .i64 x) ∧ w.cell? ⟨g, off + (k * 2 + 1), none⟩ = some (.bool b) := by
  have hk' : k < S.length := by rw [h.len]; exact hk
  obtain ⟨⟨x, b⟩, hx⟩ : ∃ y, y = S[k] := ⟨_, rfl⟩
  have hs : S[k]? = some (x, b) := by rw [List.getElem?_eq_getElem hk', hx]
  obtain ⟨h1, h2⟩ := lcells_get S k _ hs
  exact ⟨x, b, hs, h.row.cell h1, h.row.cell h2⟩
theorem Stk.to {w : World} {base n c j : Nat} {A : Option Addr} {S : List (Int × Bool)} (h : Stk w base A n c S) (hj : j ≤ n) : Stk w base A j c (S.take j) :=
  ⟨by rw [← lcells_take]; exact h.row.to hj, by rw [List.length_take, h.len]; omega, fun y hy => h.fits y (List.mem_of_mem_take hy)⟩
theorem Stk.cut {w : World} {base n c i j : Nat} {A : Option Addr} {S : List (Int × Bool)} (h : Stk w base A n c S) (hij : i ≤ j) (hj : j ≤ n) :
    Stk w base (if c = i then A else A.map (·.add (i * 2))) (j - i) (c - i) ((S.take j).drop i) :=
  ⟨by rw [← lcells_drop, ← lcells_take]; exact h.row.cut hij hj, by rw [List.length_drop, List.length_take, h.len]; omega, fun y hy => h.fits y (List.mem_of_mem_take (List.mem_of_mem_drop hy))⟩
theorem Stk.from_ {w : World} {base n c i : Nat} {A : Option Addr} {S : List (Int × Bool)} (h : Stk w base A n c S) (hi : i ≤ n) :
    Stk w base (if c = i then A else A.map (·.add (i * 2))) (n - i) (c - i) (S.drop i) :=
  ⟨by rw [← lcells_drop]; exact h.row.from_ hi, by rw [List.length_drop, h.len], fun y hy => h.fits y (List.mem_of_mem_drop hy)⟩
def lenOf : Value → Nat
  | .slice _ n _ => n
  | _ => 0

/-- The first letter goes up. -/
def upS : List (Int × Bool) → Bool
  | [] => false
  | x :: _ => !x.2
theorem upS_of {T : List (Int × Bool)} {x : Int} {b : Bool} (h : T[0]? = some (x, b)) : upS T = !b := by
  cases T with
  | nil => simp at h
  | cons y r => simp at h; subst h; rfl
theorem turnS_no {T : List (Int × Bool)} (h : false = upS T) : T = turnS T := by
  cases T with
  | nil => rfl
  | cons y r => obtain ⟨y, b⟩ := y; cases b <;> simp [upS] at h; rfl
theorem turnS_yes {T : List (Int × Bool)} {x : Int} (h : T[0]? = some (x, false)) : T.drop 1 ++ [(x, false)] = turnS T := by
  cases T with
  | nil => simp at h
  | cons y r => simp at h; subst h; rfl

set_option maxHeartbeats 1600000 in
set_option maxRecDepth 100000 in
theorem line_reduce (A : Option Addr) (n c : Nat) (L : List Int) (w : World) (hA : Ints w A n L) (hn : n ≤ 400) :
    Calls Tryd.prog 49 #[.slice A n c] w fun e w' => ∃ A' m c', e = .returned (.slice A' m c') ∧ Own w' w.heap.size A' m c' (reduceL L) ∧ Below w.heap.size w w' := by
  have hle := hA.le
  have HL := Lib.hid hA.len
  obtain ⟨i0, hi, hz0, hz1, hz2⟩ := info_parts letterInfo
  go_enter Tryd.func49, Tryd.ntmps49
  go_wp2_with fail
  go_loopw [3, 12] (fun v i wr => ∃ (k m d : Nat) (B : Option Addr) (S : List (Int × Bool)), k ≤ n ∧ m ≤ k ∧ i = .int .i64 k ∧ v = .slice B m d ∧ Stk wr w.heap.size B m d S ∧ Below w.heap.size w wr ∧ Hid (S = stackTo L k)) (fun _ i _ => n - (intOf i).toNat)
  case atStart => exact ⟨0, 0, 0, none, [], Nat.zero_le _, Nat.le_refl _, rfl, rfl, ⟨Row.none_ _ _ _, rfl, by simp⟩, Below.refl _ _, rfl⟩
  case round =>
    obtain ⟨k, m, d, B, S, hk, hmk, rfl, rfl, hst, hb, HS⟩ := hrel
    by_cases hlt : k < n
    · obtain ⟨ad, x, rfl, hx, hx1, hx2, hc⟩ := (hA.below hb).at_ hlt
      have hsz := hb.size
      have hpar : ((k : Int) % 2 == 0) = decide (k % 2 = 0) := by rw [Bool.eq_iff_iff]; simp; omega
      have HPAR := Lib.hid hpar
      clear hpar
      rcases Nat.eq_zero_or_pos m with h0 | h0
      · subst h0
        have hSn : S = [] := List.eq_nil_of_length_eq_zero hst.len
        subst hSn
        go_wp2_with (at_builtin; refine pushStk rfl _ _ rfl hst x ⟨hx1, hx2⟩ _ rfl rfl 1 (by omega) (by omega) hsz ?_)
        intro B' d' w1 hst' hb'
        have hbw := hb.trans hb'
        have HS' : Hid ([] ++ [(x, ((k : Int) % 2 == 0))] = stackTo L (k + 1)) := by
          unfold Hid; rw [stackTo_succ hx.out, ← HS.out, pushS_nil, HPAR.out]; rfl
        clear hst hb hb' hc HS HPAR
        go_wp2_with fail
        go_roundw
        case rel => exact ⟨k + 1, 1, d', B', _, by omega, by omega, by go_num, rfl, hst', hbw, HS'⟩
        case measure => simp [intOf]; omega
      · obtain ⟨q, rfl⟩ : ∃ q, m = q + 1 := ⟨m - 1, by omega⟩
        have hcap := hst.row.cap
        obtain ⟨g, off, rfl, _, _⟩ := hst.row.form h0
        obtain ⟨y, b, hy, hcy, _⟩ := hst.at_ (show q < q + 1 by omega)
        have HY := Lib.hid hy
        clear hy
        by_cases hxy : y = x
        · have hxy' : (y == x) = true := by simpa using hxy
          have HS' : Hid (S.take q = stackTo L (k + 1)) := by
            unfold Hid; rw [stackTo_succ hx.out, ← HS.out, pushS_pop hst.len (hxy ▸ HY.out)]
          have hst' := hst.to (show q ≤ q + 1 by omega)
          clear hxy HS HPAR HY
          go_wp2_with fail
          go_roundw
          case rel => exact ⟨k + 1, q, d, _, _, by omega, by omega, by go_num, rfl, hst', hb, HS'⟩
          case measure => simp [intOf]; omega
        · have hxy' : (y == x) = false := by simpa using hxy
          have HNE := Lib.hid hxy
          clear hxy
          go_wp2_with (at_builtin; refine pushStk rfl _ _ rfl hst x ⟨hx1, hx2⟩ _ rfl rfl (q + 1 + 1) (by omega) (by omega) hsz ?_)
          intro B' d' w1 hst' hb'
          have hbw := hb.trans hb'
          have HS' : Hid (S ++ [(x, ((k : Int) % 2 == 0))] = stackTo L (k + 1)) := by
            unfold Hid; rw [stackTo_succ hx.out, ← HS.out, pushS_push hst.len HY.out HNE.out, HPAR.out]
          clear hst hb hb' hc HS HPAR HY HNE hcy
          go_wp2_with fail
          go_roundw
          case rel => exact ⟨k + 1, q + 1 + 1, d', B', _, by omega, by omega, by go_num, rfl, hst', hbw, HS'⟩
          case measure => simp [intOf]; omega
    · have hkn : k = n := by omega
      subst hkn
      rw [← HL.out] at HS
      go_upto_block 2 with fail
      go_cut [3] (fun v wx => ∃ (m d : Nat) (B : Option Addr) (T : List (Int × Bool)), m ≤ k ∧ v = .slice B m d ∧ Stk wx w.heap.size B m d T ∧ Below w.heap.size w wx ∧ Hid (T = trimS (stackTo L L.length)))
      case first =>
       go_wp2_with fail
       go_loopw [3] (fun v wr => ∃ (m d : Nat) (B : Option Addr) (T : List (Int × Bool)), m ≤ k ∧ v = .slice B m d ∧ Stk wr w.heap.size B m d T ∧ Below w.heap.size w wr ∧ Hid (trimS T = trimS (stackTo L L.length))) (fun v _ => lenOf v)
       case atStart => exact ⟨m, d, B, S, hmk, rfl, hst, hb, by rw [HS.out]; rfl⟩
       case round =>
         clear hst hb HS hmk
         obtain ⟨m, d, B, T, hmk, rfl, hst, hb, HT⟩ := hrel
         have hcap := hst.row.cap
         by_cases h1 : 1 < m
         · obtain ⟨j, hj⟩ : ∃ j : Nat, m = j + 1 := ⟨m - 1, by omega⟩
           obtain ⟨g, off, rfl, _, _⟩ := hst.row.form (by omega)
           obtain ⟨x, b, hx, hcx, _⟩ := hst.at_ (show 0 < m by omega)
           obtain ⟨y, b', hy, hcy, _⟩ := hst.at_ (show j < m by omega)
           simp only [Nat.zero_mul, Nat.add_zero] at hcx
           have HX := Lib.hid hx
           have HY := Lib.hid hy
           clear hx hy
           have hcond : (1 < T.length ∧ T.head?.map (·.1) = T.getLast?.map (·.1)) ↔ x = y := by
             rw [List.head?_eq_getElem?, List.getLast?_eq_getElem?, hst.len, HX.out, show m - 1 = j by omega, HY.out]
             simp; omega
           have HC := Lib.hid hcond
           clear hcond
           have hw : IntKind.i64.wrap ((m : Int) - 1) = (j : Int) := by rw [show (m : Int) - 1 = j by omega]; exact IntWalk.i64_in _ (by omega)
           have hj2 : (m : Int) - 1 = (j : Int) := by omega
           have hg1 : decide ((1 : Int) < (m : Int)) = true := by simp; omega
           have hb0 : (0 : Int) ≤ (j : Int) := by omega
           have hb1 : (j : Int) < (m : Int) := by omega
           have hb2 : (1 : Int) ≤ (j : Int) := by omega
           have hb3 : (j : Int) ≤ (d : Int) := by omega
           have hb4 : (0 : Int) < (m : Int) := by omega
           have hlen := Lib.hid (hst.len.trans hj)
           have HJ := Lib.hid hj
           clear hj
           by_cases hxy : x = y
           · have hxy' : (x == y) = true := by simpa using hxy
             have hd1 : ¬ d = 1 := by omega
             have hst' : Stk wr w.heap.size (some ⟨g, off + 2, none⟩) (j - 1) (d - 1) ((T.take j).drop 1) := by
               have := hst.cut (i := 1) (j := j) (by omega) (by omega)
               rwa [if_neg hd1, Option.map_some, Addr.add_lit] at this
             have HT' : Hid (trimS ((T.take j).drop 1) = trimS (stackTo L L.length)) := by
               unfold Hid; rw [← HT.out, trimS_step (HC.out.2 hxy), tail_dropLast hlen.out]
             have hjm : j - 1 < m := by have := HJ.out; omega
             clear hxy HC HX HY HT hst
             go_wp2_with fail
             go_quiet (fail)
             go_wp2_with fail
             go_roundw
             case rel => exact ⟨j - 1, d - 1, _, _, by have := HJ.out; omega, rfl, hst'.drewN nq, below_drewN hb nq, HT'⟩
             case measure => simp [lenOf]; omega
           · have hxy' : (x == y) = false := by simpa using hxy
             have HT' : Hid (T = trimS (stackTo L L.length)) := by
               unfold Hid; rw [← HT.out, trimS_stop (fun h => hxy (HC.out.1 h))]
             clear hxy HC HX HY HT
             go_wp2_with fail
             go_quiet (fail)
             go_wp2_with fail
             go_meet
             case rel => exact ⟨m, d, _, T, hmk, rfl, hst.drewN nq, below_drewN hb nq, HT'⟩
         · have hg1 : decide ((1 : Int) < (m : Int)) = false := by simp; omega
           have HT' : Hid (T = trimS (stackTo L L.length)) := by
             unfold Hid; rw [← HT.out, trimS_stop (fun h => h1 (by rw [hst.len] at h; exact h.1))]
           clear HT
           go_wp2_with fail
           go_quiet (fail)
           go_wp2_with fail
           go_meet
           case rel => exact ⟨m, d, _, T, hmk, rfl, hst.drewN nq, below_drewN hb nq, HT'⟩
      case rest =>
        clear hst hb HS hmk
        obtain ⟨m, d, B, T, hmk, rfl, hst, hb, HT⟩ := hcut
        have hcap := hst.row.cap
        have hsz := hb.size
        obtain ⟨bt, hbt⟩ : ∃ bt, bt = upS T := ⟨_, rfl⟩
        have HBT := Lib.hid hbt
        clear hbt
        go_upto_region 12 with fail
        go_cut [75] (fun v wx => v = .bool bt ∧ wx = wc)
        case first =>
          rcases Nat.eq_zero_or_pos m with h0 | h0
          · subst h0
            have hTn : T = [] := List.eq_nil_of_length_eq_zero hst.len
            subst hTn
            go_wp2_with fail
            go_meet
            case rel => exact ⟨by rw [HBT.out]; rfl, rfl⟩
          · obtain ⟨g, off, rfl, _, _⟩ := hst.row.form h0
            obtain ⟨x, b, hx, hcx, hcb⟩ := hst.at_ h0
            simp only [Nat.zero_mul, Nat.add_zero, Nat.zero_add] at hcx hcb
            have HX := Lib.hid hx
            clear hx
            have hb4 : (0 : Int) < (m : Int) := by omega
            have hg1 : decide ((0 : Int) < (m : Int)) = true := by simp; omega
            go_wp2_with fail
            go_meet
            case rel => exact ⟨by rw [HBT.out, upS_of HX.out], rfl⟩
        case rest =>
        obtain ⟨rfl, hw⟩ := hcut
        subst hw
        go_upto_if 75 with fail
        go_cut [3] (fun v wx => ∃ (m' d' : Nat) (B' : Option Addr) (T' : List (Int × Bool)), m' ≤ k ∧ v = .slice B' m' d' ∧ Stk wx w.heap.size B' m' d' T' ∧ Below w.heap.size w wx ∧ Hid (T' = turnS T))
        case first =>
          cases bt
          · go_wp2_with fail
            go_meet
            case rel => exact ⟨m, d, B, T, hmk, rfl, hst, hb, turnS_no HBT.out⟩
          · have h0 : 0 < m := by
              rcases Nat.eq_zero_or_pos m with h0 | h0
              · have hTn : T = [] := List.eq_nil_of_length_eq_zero (by rw [hst.len]; exact h0)
                rw [hTn] at HBT
                cases HBT.out
              · exact h0
            obtain ⟨g, off, rfl, _, _⟩ := hst.row.form h0
            obtain ⟨x, b, hx, hcx, hcb⟩ := hst.at_ h0
            simp only [Nat.zero_mul, Nat.add_zero, Nat.zero_add] at hcx hcb
            have hbf : b = false := by
              have := HBT.out
              rw [upS_of hx] at this
              cases b
              · rfl
              · cases this
            subst hbf
            have HX := Lib.hid hx
            clear hx
            have hb4 : (0 : Int) < (m : Int) := by omega
            have b1 : (1 : Int) ≤ (m : Int) := by omega
            have b2 : (1 : Int) ≤ (d : Int) := by omega
            have HT' := Lib.hid (turnS_yes HX.out)
            have hx64 := Lib.hid (hst.fits _ (List.mem_of_getElem? HX.out))
            by_cases hd1 : d = 1
            · subst hd1
              obtain rfl : m = 1 := by omega
              have hst' : Stk wc w.heap.size (some ⟨g, off, none⟩) 0 0 (T.drop 1) := by
                have := hst.from_ (i := 1) h0
                rwa [if_pos rfl] at this
              go_wp2_with fail
              go_region_held3 (fun wx => wx.cell? ⟨g, off, none⟩ = some (.int .i64 x) ∧ wx.cell? ⟨g, off + 1, none⟩ = some (.bool false)) (first | go_keep | exact Olds.two hg2 (by omega) (by assumption))
                ((refine stepStk rfl (.tmp 77) (.tmp 81) (by rfl) (hst'.below ((Below.refl _ _).alloc (Nat.le_refl _) _).drew) x hx64.out false (by rfl) (by rfl) (Src.drew (Src.new (m := 1) (cs := [.int .i64 x, .bool false]) rfl)) 1 (by omega) (by omega) (by simp; omega) ?_; intro A2 d2 w2 hst2 hb2 hg2))
              go_wp2_with fail
              go_meet
              case rel => exact ⟨1, d2, A2, _, by omega, rfl, hst2, (hb.alloc hb.size _).drew.trans hb2, HT'⟩
            · have hst' : Stk wc w.heap.size (some ⟨g, off + 2, none⟩) (m - 1) (d - 1) (T.drop 1) := by
                have := hst.from_ (i := 1) h0
                rwa [if_neg hd1, Option.map_some, Addr.add_lit] at this
              go_wp2_with fail
              go_region_held3 (fun wx => wx.cell? ⟨g, off, none⟩ = some (.int .i64 x) ∧ wx.cell? ⟨g, off + 1, none⟩ = some (.bool false)) (first | go_keep | exact Olds.two hg2 (by omega) (by assumption))
                ((refine stepStk rfl (.tmp 77) (.tmp 81) (by rfl) (hst'.below ((Below.refl _ _).alloc (Nat.le_refl _) _).drew) x hx64.out false (by rfl) (by rfl) (Src.drew (Src.new (m := 1) (cs := [.int .i64 x, .bool false]) rfl)) m (by omega) (by omega) (by simp; omega) ?_; intro A2 d2 w2 hst2 hb2 hg2))
              go_wp2_with fail
              go_meet
              case rel => exact ⟨m, d2, A2, _, by omega, rfl, hst2, (hb.alloc hb.size _).drew.trans hb2, HT'⟩
        case rest =>
          have hTT := HT
          clear hst hb HT hcap hsz HBT
          obtain ⟨m, d, B, T', hmk, rfl, hst, hb, HT⟩ := hcut
          have HLT := Lib.hid hst.len
          go_wp2_with fail
          go_loopw [7, 85] (fun v i wr => ∃ (t : Nat) (C : Option Addr) (e : Nat) (P : List Int), t ≤ m ∧ i = .int .i64 t ∧ v = .slice C t e ∧ Own wr wc.heap.size C t e P ∧ Below wc.heap.size wc wr ∧ Hid (P = (T'.take t).map (·.1))) (fun _ i _ => m - (intOf i).toNat)
          case atStart => exact ⟨0, none, 0, [], Nat.zero_le _, rfl, rfl, Own.nil _ _, Below.refl _ _, rfl⟩
          case round =>
            obtain ⟨t, C, e, P, ht, rfl, rfl, hown, hbr, HP⟩ := hrel
            by_cases htm : t < m
            · obtain ⟨g, off, rfl, _, hgl⟩ := hst.row.form (by omega)
              obtain ⟨x, b, hx, hcx, hcb⟩ := hst.at_ htm
              have hcx' := (hbr.cell (p := ⟨g, off + t * 2, none⟩) hgl).trans hcx
              have hcb' := (hbr.cell (p := ⟨g, off + (t * 2 + 1), none⟩) hgl).trans hcb
              have hcb2 : wr.cell? ⟨g, off + t * 2 + 1, none⟩ = some (.bool b) := by rw [Nat.add_assoc]; exact hcb'
              have HX := Lib.hid hx
              have hsz := hbr.size
              clear hx hcx hcb hcb'
              have hx64 := Lib.hid (hst.fits _ (List.mem_of_getElem? HX.out))
              go_wp2_with (at_builtin; refine app1m rfl _ _ rfl (hown.alloc _) x rfl (wr.heap.size + 1) (by simp) rfl hx64.out (by omega) (by simp; omega) ?_)
              intro C' e' w1 hown' hb' _ _
              have hbw := (hbr.alloc hbr.size _).trans hb'
              have HP' : Hid (P ++ [x] = (T'.take (t + 1)).map (·.1)) := by unfold Hid; rw [map_take_succ _ T' t (x, b) HX.out, HP.out]
              clear hown hbr hb' HP hx64 HX
              go_wp2_with fail
              go_roundw
              case rel => exact ⟨t + 1, C', e', _, by omega, by go_num, rfl, hown', hbw, HP'⟩
              case measure => simp [intOf]; omega
            · go_wp2_with fail
              go_ret
              have htm' : t = m := by omega
              subst htm'
              rw [List.take_of_length_le (by rw [HLT.out]; exact Nat.le_refl _), HT.out, hTT.out] at HP
              have hsz := hb.size
              exact ⟨_, _, _, rfl, (by rw [show reduceL L = P from HP.out.symm]; exact hown.mono hsz), below_chain hb hbr hsz⟩
end Go.Proofs.YtpdkonpnhalecaaDoor
