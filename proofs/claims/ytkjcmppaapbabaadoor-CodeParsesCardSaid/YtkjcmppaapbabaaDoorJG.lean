/-
  Contracts: Bare, Circle, pass, cross, circle, small. Conditions: bounds on the arguments' size alone.
  Plain: the bare loop and a circle around fingers are valid codes. No walk of the program.
  Contracts: the document's Equal of codes; circle. Conditions: the letters read.
  Contracts: circle; slices.Clone of letters. Conditions: the letters read.
-/
import Derived.Test.YtkjcmppaapbabaaDoorJC
import Derived.Test.YtkjcmppaapbabaaDoorJA
import Derived.Laws.Cover2
import Derived.Lib.SliceRun
namespace Go.Proofs.YtkjcmppaapbabaaDoor
section
open Go.RowKit
def lpass (g r : Int) : Lt := ⟨1, g, r, 0, 0, false⟩
def lcross (i : Int) (o : Bool) (s : Int) : Lt := ⟨2, 0, 0, i, s, o⟩
theorem ltok_pass {g r : Int} (hg : I64 g) (hr : I64 r) : LtOk (lpass g r) := ⟨(by unfold I64 lpass; simp), hg, hr, (by unfold I64 lpass; simp), (by unfold I64 lpass; simp)⟩
theorem ltok_cross {i s : Int} {o : Bool} (hi : I64 i) (hs : I64 s) : LtOk (lcross i o s) := ⟨(by unfold I64 lcross; simp), (by unfold I64 lcross; simp), (by unfold I64 lcross; simp), hi, hs⟩
set_option maxHeartbeats 800000 in
theorem law_pass (g r : Int) (w : World) :
    Calls Tryd.prog 35 #[.int .i64 g, .int .i64 r] w fun e w' => e = .returned (ltV (lpass g r)) ∧ Below w.heap.size w w' := by
  have hb := fun w => build_pass g r w
  go_enter Tryd.func35, Tryd.ntmps35
  go_wp2_with fail
  (try simp only [Exit.inBlock, Exit.then])
  refine ret_cellB rfl rfl (heap_alloc_new _ _) Tryd.underlying46 rfl (by kernel_rfl) rfl ?_
  exact ⟨rfl, (Below.refl _ _).alloc (Nat.le_refl _) _⟩
set_option maxHeartbeats 800000 in
theorem law_cross (i s : Int) (o : Bool) (w : World) :
    Calls Tryd.prog 79 #[.int .i64 i, .bool o, .int .i64 s] w fun e w' => e = .returned (ltV (lcross i o s)) ∧ Below w.heap.size w w' := by
  have hb := fun w => build_cross i s o w
  go_enter Tryd.func79, Tryd.ntmps79
  go_wp2_with fail
  (try simp only [Exit.inBlock, Exit.then])
  refine ret_cellB rfl rfl (heap_alloc_new _ _) Tryd.underlying46 rfl (by kernel_rfl) rfl ?_
  exact ⟨rfl, (Below.refl _ _).alloc (Nat.le_refl _) _⟩
set_option maxHeartbeats 800000 in
theorem law_small (K : Int) (A : Option Addr) (n c : Nat) (L : List Lt) (w : World) (hA : Lets w A n L) :
    Calls Tryd.prog 20 #[.agg #[.int .i64 K, .slice A n c]] w fun e w' => e = .returned (.bool (decide (n ≤ 60))) ∧ Below w.heap.size w w' := by
  have hle := hA.le
  go_enter Tryd.func20, Tryd.ntmps20
  go_wp2_with fail
  go_ret
  exact ⟨ret_bool (by simp; omega), (Below.refl _ _).alloc (Nat.le_refl _) _⟩
def badK (K : Int) : Bool := decide (K < 0) || decide (40 < K)
def bareK (K : Int) : Int := if badK K then 0 else K
def bareE (K : Int) : Int := if badK K then 2 else 0
set_option maxHeartbeats 800000 in
theorem code_Bare (K : Int) (w : World) :
    Calls Tryd.prog 32 #[.int .i64 K] w fun e w' => e = .returned (.tuple #[.agg #[.int .i64 (bareK K), .slice none 0 0], .int .i64 (bareE K)]) ∧ Below w.heap.size w w' := by
  have hb0 := build_code0
  have hb1 := fun w => build_code1 K w
  cases h1 : decide (K < 0) with
  | true =>
    have hb : badK K = true := by unfold badK; rw [h1]; rfl
    have hf := Lib.hid (show bareK K = 0 ∧ bareE K = 2 by unfold bareK bareE; rw [hb]; exact ⟨rfl, rfl⟩)
    clear hb
    go_enter Tryd.func32, Tryd.ntmps32
    go_wp2_with fail
    (try simp only [Exit.inBlock, Exit.then])
    refine ret_cellT rfl rfl rfl (heap_alloc_new _ _) Tryd.underlying24 rfl (by kernel_rfl) rfl ?_
    exact ⟨by rw [hf.out.1, hf.out.2]; rfl, (Below.refl _ _).alloc (Nat.le_refl _) _⟩
  | false =>
    cases h2 : decide (40 < K) with
    | true =>
      have hb : badK K = true := by unfold badK; rw [h1, h2]; rfl
      have hf := Lib.hid (show bareK K = 0 ∧ bareE K = 2 by unfold bareK bareE; rw [hb]; exact ⟨rfl, rfl⟩)
      clear hb
      go_enter Tryd.func32, Tryd.ntmps32
      go_wp2_with fail
      (try simp only [Exit.inBlock, Exit.then])
      refine ret_cellT rfl rfl rfl (heap_alloc_new _ _) Tryd.underlying24 rfl (by kernel_rfl) rfl ?_
      exact ⟨by rw [hf.out.1, hf.out.2]; rfl, (Below.refl _ _).alloc (Nat.le_refl _) _⟩
    | false =>
      have hb : badK K = false := by unfold badK; rw [h1, h2]; rfl
      have hf := Lib.hid (show bareK K = K ∧ bareE K = 0 by unfold bareK bareE; rw [hb]; exact ⟨rfl, rfl⟩)
      clear hb
      go_enter Tryd.func32, Tryd.ntmps32
      go_wp2_with fail
      (try simp only [Exit.inBlock, Exit.then])
      refine ret_cellT rfl rfl rfl (heap_alloc_new _ _) Tryd.underlying24 rfl (by kernel_rfl) rfl ?_
      exact ⟨by rw [hf.out.1, hf.out.2]; rfl, (Below.refl _ _).alloc (Nat.le_refl _) _⟩
def circE (K i j : Int) : Int := if K < 0 ∨ 40 < K ∨ i < 1 ∨ j < i ∨ K < j then 2 else 0
def circL (K i j : Int) : List Lt := if K < 0 ∨ 40 < K ∨ i < 1 ∨ j < i ∨ K < j then [] else [lpass (i - 1) 1, lpass j 1]
def circK (K i j : Int) : Int := if K < 0 ∨ 40 < K ∨ i < 1 ∨ j < i ∨ K < j then 0 else K
set_option maxHeartbeats 1600000 in
theorem code_Circle (K i j : Int) (_hK : I64 K) (hi : I64 i) (hj : I64 j) (w : World) :
    Calls Tryd.prog 33 #[.int .i64 K, .int .i64 i, .int .i64 j] w fun e w' => ∃ A n, e = .returned (.tuple #[.agg #[.int .i64 (circK K i j), .slice A n n], .int .i64 (circE K i j)]) ∧ OwnL w' w.heap.size A n n (circL K i j) ∧ Below w.heap.size w w' := by
  have hb0 := build_code0
  by_cases hbad : K < 0 ∨ 40 < K ∨ i < 1 ∨ j < i ∨ K < j
  · have hf := Lib.hid (show circK K i j = 0 ∧ circE K i j = 2 ∧ circL K i j = [] by unfold circK circE circL; rw [if_pos hbad, if_pos hbad, if_pos hbad]; exact ⟨rfl, rfl, rfl⟩)
    have hall : K < 0 ∨ (decide (K < 0) = false ∧ (40 < K ∨ (decide (40 < K) = false ∧ (i < 1 ∨ (decide (i < 1) = false ∧ (j < i ∨ (decide (j < i) = false ∧ K < j))))))) := by simp; omega
    clear hbad
    rcases hall with h1 | ⟨h1, h2 | ⟨h2, h3 | ⟨h3, h4 | ⟨h4, h5⟩⟩⟩⟩
    all_goals
      go_enter Tryd.func33, Tryd.ntmps33
      go_wp2_with fail
      (try simp only [Exit.inBlock, Exit.then])
      refine ret_cellT rfl rfl rfl (heap_alloc_new _ _) Tryd.underlying24 rfl (by kernel_rfl) rfl ?_
      exact ⟨none, 0, by rw [hf.out.1, hf.out.2.1]; rfl, by rw [hf.out.2.2]; exact OwnL.nil _ _, (Below.refl _ _).alloc (Nat.le_refl _) _⟩
  · have hf := Lib.hid (show circK K i j = K ∧ circE K i j = 0 ∧ circL K i j = [lpass (i - 1) 1, lpass j 1] by unfold circK circE circL; rw [if_neg hbad, if_neg hbad, if_neg hbad]; exact ⟨rfl, rfl, rfl⟩)
    have h1 : decide (K < 0) = false := by simp; omega
    have h2 : decide (40 < K) = false := by simp; omega
    have h3 : decide (i < 1) = false := by simp; omega
    have h4 : decide (j < i) = false := by simp; omega
    have h5 : decide (K < j) = false := by simp; omega
    have hw : IntKind.i64.wrap (i - 1) = i - 1 := IntWalk.i64_in _ (by omega)
    have hbp1 := fun w => build_pass (i - 1) 1 w
    have hbp2 := fun w => build_pass j 1 w
    have hbl := fun w => buildL2 (lpass (i - 1) 1) (lpass j 1) w
    have hbc := fun b w => build_code2 K (some ⟨b, 0, none⟩) 2 2 w
    have hok : ∀ x ∈ [lpass (i - 1) 1, lpass j 1], LtOk x := by
      intro x hx
      unfold I64 at hi hj
      simp only [List.mem_cons, List.not_mem_nil, or_false] at hx
      rcases hx with rfl | rfl
      · exact ltok_pass (by unfold I64; omega) (by unfold I64; omega)
      · exact ltok_pass hj (by unfold I64; omega)
    have HOK := Lib.hid hok
    clear hok hbad
    simp only [lpass] at hbl
    go_enter Tryd.func33, Tryd.ntmps33
    go_wp2_with fail
    (try simp only [Exit.inBlock, Exit.then])
    refine ret_cellT rfl rfl rfl ((Blk.new w _ _).alloc _) Tryd.underlying24 rfl (by kernel_rfl) rfl ?_
    refine ⟨some ⟨w.heap.size + 1, 0, none⟩, 2, by rw [hf.out.1, hf.out.2.1]; rfl, ?_, ((Below.refl _ _).alloc (Nat.le_refl _) _).alloc (by simp) _⟩
    rw [hf.out.2.2]
    exact OwnL.block (L := [lpass (i - 1) 1, lpass j 1]) (heap_alloc2_new w _ _) (by omega) HOK.out (by simp)
end

section
theorem bare_check {K : Int} (h0 : 0 ≤ K) (h1 : K ≤ 40) : checkE K [] = 0 := by
  unfold checkE
  rw [if_neg (by simp [cN, countTo]), if_neg (by omega), if_pos (show ([] : List Lt).length = 0 from rfl)]
theorem two_la {a b : Lt} (v : Nat) : la [a, b] v = if v = 0 then a else if v = 1 then b else dl := by
  match v with
  | 0 => rfl
  | 1 => rfl
  | v + 2 => rfl
theorem pN_two {a b c d : Lt} (ha : isP a = isP c) (hb : isP b = isP d) (v : Nat) : pN [a, b] v = pN [c, d] v := by
  unfold pN
  refine ct_congr fun m _ => ?_
  rw [two_la, two_la]
  split
  · exact ha
  · split
    · exact hb
    · rfl
theorem left_two {a b c d : Lt} (ha : isP a = isP c) (hb : isP b = isP d) (ca : isC a = false) (cb : isC b = false) (cc : isC c = false) (cd : isC d = false) (X : List Nat) (x : Nat) : leftF [a, b] X x = leftF [c, d] X x := by
  have hd : ∀ v, dwn [a, b] v = dwn [c, d] v := fun v => by unfold dwn; rw [pN_two ha hb]
  have h1 : ∀ v, isC (la [a, b] v) = false := fun v => by rw [two_la]; split <;> (try split) <;> first | assumption | rfl
  have h2 : ∀ v, isC (la [c, d] v) = false := fun v => by rw [two_la]; split <;> (try split) <;> first | assumption | rfl
  unfold leftF
  simp only [h1, h2, hd]
  rfl
theorem circ_axis {a b : Lt} (ha : isP a = true) (hb : isP b = true) (h : a.gate < b.gate) : axL [a, b] = [0, 1] := by
  have e0 : la [a, b] 0 = a := rfl
  have e1 : la [a, b] 1 = b := rfl
  show axTo [a, b] 2 = _
  simp [axTo, e0, e1, ha, hb, insX, lftB, h]
theorem circ_check {K i j : Int} (h0 : 1 ≤ i) (h1 : i ≤ j) (h2 : j ≤ K) (h3 : K ≤ 40) : checkE K [lpass (i - 1) 1, lpass j 1] = 0 := by
  have e0 : la [lpass (i - 1) 1, lpass j 1] 0 = lpass (i - 1) 1 := rfl
  have e1 : la [lpass (i - 1) 1, lpass j 1] 1 = lpass j 1 := rfl
  have ax : axL [lpass (i - 1) 1, lpass j 1] = [0, 1] := circ_axis rfl rfl (by simp [lpass]; omega)
  have ax2 : axL [lpass 0 1, lpass 1 1] = [0, 1] := circ_axis rfl rfl (by simp [lpass])
  have hw : walksL [lpass (i - 1) 1, lpass j 1] = walksL [lpass 0 1, lpass 1 1] := by
    unfold walksL dartsN
    rw [ax, ax2]
    have : leftF [lpass (i - 1) 1, lpass j 1] [0, 1] = leftF [lpass 0 1, lpass 1 1] [0, 1] := funext fun x => left_two (a := lpass (i - 1) 1) (b := lpass j 1) (c := lpass 0 1) (d := lpass 1 1) rfl rfl rfl rfl rfl rfl _ x
    rw [this]; rfl
  have hp : pN [lpass (i - 1) 1, lpass j 1] 2 = 2 := by rw [pN_two (a := lpass (i - 1) 1) (b := lpass j 1) (c := lpass 0 1) (d := lpass 1 1) rfl rfl]; rfl
  have hc : cN [lpass (i - 1) 1, lpass j 1] 2 = 0 := rfl
  have hne : ¬ (i - 1 = j) := by omega
  have hne' : ¬ (j = i - 1) := by omega
  unfold checkE
  rw [if_neg (by simp; omega), if_neg (by omega), if_neg (by simp)]
  have hv : validB2 K [lpass (i - 1) 1, lpass j 1] = true := by
    unfold validB2
    simp only [Bool.and_eq_true]
    refine ⟨⟨⟨rfl, by show decide (pN [lpass (i - 1) 1, lpass j 1] 2 % 2 = 0) = true; rw [hp]; rfl⟩, ?_⟩, ?_⟩
    · show allTo _ 2 = true
      rw [allTo_iff]
      intro m hm
      rcases (show m = 0 ∨ m = 1 by omega) with rfl | rfl
      · rw [e0]
        unfold rlB
        rw [if_pos (by rfl)]
        simp [gN, smN, smB, countTo, lpass, isP, la, hne']
        omega
      · rw [e1]
        unfold rlB
        rw [if_pos (by rfl)]
        simp [gN, smN, smB, countTo, lpass, isP, la, hne]
        omega
    · unfold flatB
      rw [hw]
      show (walksL [lpass 0 1, lpass 1 1]).length == pN [lpass (i - 1) 1, lpass j 1] 2 + cN [lpass (i - 1) 1, lpass j 1] 2 / 2 + 2
      rw [hp, hc]
      kernel_rfl
  rw [if_pos hv]
end

section
open Go.RowKit
def ltB (x y : Lt) : Bool := x.kind == y.kind && x.gate == y.gate && x.rank == y.rank && x.id == y.id && x.sign == y.sign && x.over == y.over
theorem ltB_iff {x y : Lt} : ltB x y = true ↔ x = y := by
  cases x; cases y
  simp [ltB, and_assoc]
set_option maxRecDepth 100000 in
theorem eqLt (x y : Lt) (w : World) : (Op.equalIn 10000 46 (.agg #[.int .i64 x.kind, .int .i64 x.gate, .int .i64 x.rank, .int .i64 x.id, .int .i64 x.sign, .bool x.over]) (.agg #[.int .i64 y.kind, .int .i64 y.gate, .int .i64 y.rank, .int .i64 y.id, .int .i64 y.sign, .bool y.over])).run Tryd.prog w = .ok (ltB x y) w := by
  have u3 := Tryd.underlying3
  have a3 := Tryd.isAgg3
  have z3 := Tryd.sizeOf3
  have u4 := Tryd.underlying4
  have a4 := Tryd.isAgg4
  have z4 := Tryd.sizeOf4
  have u5 := Tryd.underlying44
  have a5 := Tryd.isAgg44
  have z5 := Tryd.sizeOf44
  have hS : Tryd.prog.underlying 46 = some (.struct (Tryd.prog.fieldsOf 46)) := by kernel_rfl
  have hp : Tryd.prog.stoodInHeld 46 = false := by kernel_rfl
  rw [show (10000 : Nat) = 9999 + 1 from rfl, run_equalIn_agg w 9999 46 _ _ hS hp]
  simp only [Program.fieldsOf, Tryd.underlying46]
  go_simp
  unfold ltB
  by_cases h1 : x.kind = y.kind <;> by_cases h2 : x.gate = y.gate <;> by_cases h3 : x.rank = y.rank <;> by_cases h4 : x.id = y.id <;> by_cases h5 : x.sign = y.sign <;> by_cases h6 : x.over = y.over <;> simp [h1, h2, h3, h4, h5, h6]
theorem la_get {L : List Lt} {i : Nat} (h : i < L.length) : L[i]? = some (la L i) := by unfold la; rw [List.getElem?_eq_getElem h]; rfl
set_option maxRecDepth 100000 in
set_option maxHeartbeats 3200000 in
theorem cref_Equal (K1 K2 : Int) (A B : Option Addr) (n c m d : Nat) (L M : List Lt) (w : World) (hA : Lets w A n L) (hB : Lets w B m M) :
    Calls Tryd.prog 34 #[.agg #[.int .i64 K1, .slice A n c], .agg #[.int .i64 K2, .slice B m d]] w fun e w' => e = .returned (.bool (K1 == K2 && decide (L = M))) ∧ Below w.heap.size w w' := by
  have hle := hA.le
  have hle2 := hB.le
  have hLn := hA.len
  have hMn := hB.len
  have hb2 : Below w.heap.size w ((w.alloc (.cells #[.int .i64 K1, .slice A n c] 24)).alloc (.cells #[.int .i64 K2, .slice B m d] 24)) := ((Below.refl _ _).alloc (Nat.le_refl _) _).alloc (by simp) _
  by_cases hK : K1 = K2
  · have hKb : (K1 != K2) = false := by simpa using hK
    by_cases hnm : n = m
    · have hnb : ((n : Int) != (m : Int)) = false := by simp; omega
      have HHK := Lib.hid (show (K1 == K2 && decide (L = M)) = decide (L = M) by simp [hK])
      have HN := Lib.hid hnm
      have HL := Lib.hid hLn
      have HM := Lib.hid hMn
      clear hK hnm hLn hMn
      have bB : Blk ((w.alloc (.cells #[.int .i64 K1, .slice A n c] 24)).alloc (.cells #[.int .i64 K2, .slice B m d] 24)) (w.heap.size + 1) 24 #[.int .i64 K2, .slice B m d] := heap_alloc2_new w _ _
      have bA := (Blk.new w 24 #[.int .i64 K1, .slice A n c]).alloc (.cells #[.int .i64 K2, .slice B m d] 24)
      go_enter Tryd.func34, Tryd.ntmps34
      go_wp2_with fail
      generalize (w.alloc (.cells #[.int .i64 K1, .slice A n c] 24)).alloc (.cells #[.int .i64 K2, .slice B m d] 24) = W at hb2 bA bB ⊢
      have hst : Hid (∀ j, j < 0 → la L j = la M j) := Lib.hid (fun j hj => by omega)
      go_loopw [5] (fun v5 wr => ∃ i : Nat, i ≤ n ∧ v5 = .int .i64 i ∧ Below W.heap.size W wr ∧ Hid (∀ j, j < i → la L j = la M j)) (fun v5 _ => n - (intOf v5).toNat)
      case atStart => exact ⟨0, Nat.zero_le _, rfl, Below.refl _ _, hst⟩
      case round =>
        obtain ⟨i, hi, rfl, hbr, HS⟩ := hrel
        clear hst
        have e1 : wr.cell? ⟨w.heap.size, 1, none⟩ = some (.slice A n c) := ((bA.below hbr bA.lt).cell 1).trans rfl
        have e2 : wr.cell? ⟨w.heap.size + 1, 1, none⟩ = some (.slice B m d) := ((bB.below hbr bB.lt).cell 1).trans rfl
        have hbw := below_chain hb2 hbr hb2.size
        by_cases hlt : i < n
        · obtain ⟨g1, o1, rfl, hg1, hx, _⟩ := (hA.below hbw).at_ hlt
          obtain ⟨g2, o2, rfl, hg2, hy, _⟩ := (hB.below hbw).at_ (k := i) (by have := HN.out; omega)
          obtain ⟨x0, x1, x2, x3, x4, x5⟩ := hx
          obtain ⟨y0, y1, y2, y3, y4, y5⟩ := hy
          have i0 : (0 : Int) ≤ (i : Int) := by omega
          have i1 : (i : Int) < (n : Int) := by omega
          have i2 : (i : Int) < (m : Int) := by have := HN.out; omega
          have heq := fun w => eqLt (la L i) (la M i) w
          cases hq : ltB (la L i) (la M i) with
          | true =>
            have HS1 := Lib.hid (show ∀ j, j < i + 1 → la L j = la M j from fun j hj => by
              rcases Nat.decEq j i with e | e
              · exact HS.out j (by omega)
              · subst e; exact ltB_iff.1 hq)
            clear HS
            go_wp2_with fail
            go_quiet (fail)
            go_wp2_with fail
            go_roundw
            case rel => exact ⟨i + 1, by omega, by go_num, below_drewN hbr _, HS1⟩
            case measure => simp [intOf]; omega
          | false =>
            have hf := Lib.hid (show decide (L = M) = false by
              simp only [decide_eq_false_iff_not]
              intro e
              rw [e] at hq
              have := ltB_iff (x := la M i) (y := la M i)
              rw [this.2 rfl] at hq
              cases hq)
            clear HS
            go_wp2_with fail
            go_quiet (fail)
            go_wp2_with fail
            go_ret
            exact ⟨ret_bool (by rw [HHK.out, hf.out]), below_drewN hbw _⟩
        · have hin : i = n := by omega
          have hf := Lib.hid (show decide (L = M) = true by
            simp only [decide_eq_true_eq]
            apply List.ext_getElem?
            intro j
            by_cases hj : j < n
            · rw [la_get (by rw [HL.out]; exact hj), la_get (by rw [HM.out, ← HN.out]; exact hj), HS.out j (by omega)]
            · rw [List.getElem?_eq_none (by rw [HL.out]; omega), List.getElem?_eq_none (by rw [HM.out, ← HN.out]; omega)])
          have i1 : ¬ (i : Int) < (n : Int) := by omega
          clear HS hin
          go_wp2_with fail
          go_ret
          exact ⟨ret_bool (by rw [HHK.out, hf.out]), hbw⟩
    · have hnb : ((n : Int) != (m : Int)) = true := by simp; omega
      have hf := Lib.hid (show (K1 == K2 && decide (L = M)) = false by
        have : L ≠ M := fun e => hnm (by rw [← hLn, ← hMn, e])
        simp [this])
      clear hK hnm hLn hMn
      go_enter Tryd.func34, Tryd.ntmps34
      go_wp2_with fail
      go_ret
      exact ⟨ret_bool hf.out.symm, hb2⟩
  · have hKb : (K1 != K2) = true := by simpa using hK
    have hf := Lib.hid (show (K1 == K2 && decide (L = M)) = false by simp [hK])
    clear hK hLn hMn
    go_enter Tryd.func34, Tryd.ntmps34
    go_wp2_with fail
    go_ret
    exact ⟨ret_bool hf.out.symm, hb2⟩
end

section
open Go.RowKit
theorem law_passE (g r : Int) (w : World) :
    Calls Tryd.prog 35 #[.int .i64 g, .int .i64 r] w fun e w' => e = .returned (.agg #[.int .i64 1, .int .i64 g, .int .i64 r, .int .i64 0, .int .i64 0, .bool false]) ∧ Below w.heap.size w w' := law_pass g r w
theorem law_crossE (i s : Int) (o : Bool) (w : World) :
    Calls Tryd.prog 79 #[.int .i64 i, .bool o, .int .i64 s] w fun e w' => e = .returned (.agg #[.int .i64 2, .int .i64 0, .int .i64 0, .int .i64 i, .int .i64 s, .bool o]) ∧ Below w.heap.size w w' := law_cross i s o w
theorem ok01 : ∀ x ∈ [lpass 0 1, lpass 1 1], LtOk x := by
  intro x hx
  simp only [List.mem_cons, List.not_mem_nil, or_false] at hx
  rcases hx with rfl | rfl <;> exact ltok_pass (by unfold I64; omega) (by unfold I64; omega)
set_option maxHeartbeats 1600000 in
theorem law_circle (w : World) :
    Calls Tryd.prog 68 #[] w fun e w' => ∃ g, e = .returned (.agg #[.int .i64 2, .slice (some ⟨g, 0, none⟩) 2 2]) ∧ OwnL w' w.heap.size (some ⟨g, 0, none⟩) 2 2 [lpass 0 1, lpass 1 1] ∧ Below w.heap.size w w' := by
  have hbl := fun w => buildL2 (lpass 0 1) (lpass 1 1) w
  simp only [ltV, lpass] at hbl
  have hbc := fun b w => build_code2 2 (some ⟨b, 0, none⟩) 2 2 w
  have hb1 : Below w.heap.size w (w.alloc (.cells #[.int .i64 0, .slice none 0 0] 24)) := (Below.refl _ _).alloc (Nat.le_refl _) _
  have hB1 := Blk.new w 24 #[.int .i64 0, .slice none 0 0]
  go_enter Tryd.func68, Tryd.ntmps68
  go_wp2_with fail
  refine (law_passE 0 1 _).mono ?_
  rintro e w2 ⟨rfl, hb2⟩
  have hB2 := hB1.below hb2 hB1.lt
  have hbw2 := below_chain hb1 hb2 hb1.size
  clear hb1 hb2 hB1
  go_wp2_with fail
  refine (law_passE 1 1 _).mono ?_
  rintro e w3 ⟨rfl, hb3⟩
  have hB3 := hB2.below hb3 hB2.lt
  have hbw3 := below_chain hbw2 hb3 hbw2.size
  clear hbw2 hb3 hB2
  have x0 : w3.cell? ⟨w.heap.size, 0, none⟩ = some (.int .i64 0) := (hB3.cell 0).trans rfl
  have x1 : w3.cell? ⟨w.heap.size, 1, none⟩ = some (.slice none 0 0) := (hB3.cell 1).trans rfl
  have f0 := hB3.frozen 0
  have f1 := hB3.frozen 1
  have hlt := hB3.lt
  have hR : Blk ((w3.setCell ⟨w.heap.size, 0, none⟩ (.int .i64 2)).setCell ⟨w.heap.size, 1, none⟩ (.slice (some ⟨w3.heap.size, 0, none⟩) 2 2)) w.heap.size 24 #[.int .i64 2, .slice (some ⟨w3.heap.size, 0, none⟩) 2 2] := (hB3.set_ 0 _).set_ 1 _
  have hbS := (hbw3.setCell (p := ⟨w.heap.size, 0, none⟩) (Nat.le_refl _) (.int .i64 2)).setCell (p := ⟨w.heap.size, 1, none⟩) (Nat.le_refl _) (.slice (some ⟨w3.heap.size, 0, none⟩) 2 2)
  have hsz : ((w3.setCell ⟨w.heap.size, 0, none⟩ (.int .i64 2)).setCell ⟨w.heap.size, 1, none⟩ (.slice (some ⟨w3.heap.size, 0, none⟩) 2 2)).heap.size = w3.heap.size := by simp
  have HSZ := Lib.hid hsz
  have hsw := hbw3.size
  clear hB3 hbw3 hsz
  go_wp2_with fail
  (try simp only [Exit.inBlock, Exit.then])
  have hN := Blk.new ((w3.setCell ⟨w.heap.size, 0, none⟩ (.int .i64 2)).setCell ⟨w.heap.size, 1, none⟩ (.slice (some ⟨w3.heap.size, 0, none⟩) 2 2)) 46 ([lpass 0 1, lpass 1 1].flatMap ltC).toArray
  rw [HSZ.out] at hN
  refine ret_cellB rfl rfl (hR.alloc _) Tryd.underlying24 rfl (by kernel_rfl) rfl ?_
  exact ⟨w3.heap.size, rfl, OwnL.block hN hsw ok01 (by simp), hbS.alloc (by rw [HSZ.out]; exact hsw) _⟩
theorem OwnL.made {w : World} {base : Nat} (hb : base ≤ w.heap.size) : OwnL (w.alloc (.cells #[] 46)) base (some ⟨w.heap.size, 0, none⟩) 0 0 [] :=
  ⟨⟨by simp, Nat.le_refl _, fun e => (by cases e), fun ad ha => by
    injection ha with ha
    subst ha
    exact ⟨rfl, hb, by simp, fun j u hu => (by simp at hu), fun j hj => by omega⟩⟩, by simp, by omega⟩
theorem Lets.src {w : World} {A : Option Addr} {n : Nat} {L : List Lt} (h : Lets w A n L) : Src w 6 A n (L.flatMap ltC) := by
  refine ⟨by rw [flat_len ltC 6 ltC_len, h.len], fun hn => ?_⟩
  obtain ⟨g, o, rfl, hg, hc⟩ := h.2.2.2 hn
  refine ⟨_, rfl, hg, fun j u hu => ?_⟩
  have hjl : j < L.length * 6 := by
    have := (List.getElem?_eq_some_iff.1 hu).1
    rwa [flat_len ltC 6 ltC_len] at this
  have hx : L[j / 6]? = some (L[j / 6]'(by omega)) := List.getElem?_eq_getElem _
  have hf := flat_at ltC 6 ltC_len L (j / 6) (j % 6) _ hx (Nat.mod_lt _ (by omega))
  rw [show j / 6 * 6 + j % 6 = j by omega, hu] at hf
  have ha := hc (j / 6) _ hx
  have hadd : (⟨g, o, none⟩ : Addr).add j = ⟨g, o + j, none⟩ := Addr.add_lit _ _ _
  rw [hadd]
  have e : j = j / 6 * 6 + j % 6 := by omega
  generalize L[j / 6]'(by omega) = x at *
  rcases (show j % 6 = 0 ∨ j % 6 = 1 ∨ j % 6 = 2 ∨ j % 6 = 3 ∨ j % 6 = 4 ∨ j % 6 = 5 by omega) with h6 | h6 | h6 | h6 | h6 | h6 <;> rw [h6] at hf e <;> simp [ltC] at hf <;> subst hf
  · rw [e]; exact ha.kind
  · rw [e]; exact ha.gate
  · rw [e]; exact ha.rank
  · rw [e]; exact ha.id
  · rw [e]; exact ha.sign
  · rw [e]; exact ha.over
/-- 'append(own, letters...)'. -/
theorem pushLs {w : World} {ops : Array Oper} {rest : List Oper} {o : Oper} {a : Act} {Q' : Exit → Act → World → Prop} (hgd : o.guard = none) (s x : Operand)
    (ho : o.op = .call { callee := .builtin .append, args := #[s, x], argTypes := #[22, 22] })
    {base : Nat} {A : Option Addr} {n c : Nat} {L : List Lt} (hst : OwnL w base A n c L) {B : Option Addr} {m d : Nat} {M : List Lt} (hM : Lets w B m M) (hs : a.eval s = .slice A n c) (hx : a.eval x = .slice B m d)
    (N : Nat) (hN : n + m = N) (hn : N ≤ 2932031007402) (hbase : base ≤ w.heap.size)
    (h : ∀ A' c' w', OwnL w' base A' N c' (L ++ M) → w.grownBy w' (blk A) → (∀ k, blk A' = some k → blk A = some k ∨ w.heap.size ≤ k) → wpList Tryd.prog ops Q' rest (a.put o.dst (.slice A' N c')) w') :
    wpList Tryd.prog ops Q' (o :: rest) a w := by
  obtain ⟨i0, hi, hz0, hz1, hz2⟩ := info_parts ltInfo
  refine appR hgd s x 22 ho 46 i0 _ 6 48 Tryd.underlying22 hi hz0 hz1 hz2 rfl (by decide) hst.row hM.src
    (by
      intro u hu
      obtain ⟨q, _, hq⟩ := List.mem_flatMap.1 hu
      simp [ltC] at hq
      rcases hq with rfl | rfl | rfl | rfl | rfl | rfl <;> rfl) hs hx N hN (by unfold maxLen; omega) (by omega) hbase ?_
  intro A' c' w' h1 h2 h3 _
  refine h A' c' w' ⟨by rw [List.flatMap_append]; exact h1, fun y hy => ?_, hn⟩ h2 h3
  rcases List.mem_append.1 hy with hy | hy
  · exact hst.fits y hy
  · exact hM.fits y hy
set_option maxHeartbeats 400000 in
theorem clone_letters (A : Option Addr) (n c : Nat) (L : List Lt) (w : World) (hA : Lets w A n L) :
    Calls Tryd.prog 88 #[.slice A n c] w fun e w' => ∃ A' c', e = .returned (.slice A' n c') ∧ OwnL w' w.heap.size A' n c' L ∧ Below w.heap.size w w' := by
  have hle := hA.le
  have hnil := fun (w : World) (a : Option Addr) (n c : Nat) => Lib.run_eql_slice_nil (P := Tryd.prog) w 22 46 a n c 0 0 Tryd.underlying22
  rcases A with _ | ad
  · have hn : n = 0 := by
      rcases Nat.eq_zero_or_pos n with h0 | h0
      · exact h0
      · obtain ⟨g, o, h, _⟩ := hA.2.2.2 h0
        cases h
    subst hn
    have hL : L = [] := List.eq_nil_of_length_eq_zero hA.len
    subst hL
    go_enter Tryd.func88, Tryd.ntmps88
    go_wp2_with fail
    go_ret
    exact ⟨_, _, rfl, OwnL.nil _ _, Below.refl _ _⟩
  · have hb0 := (Below.refl w.heap.size w).alloc (Nat.le_refl _) (.cells #[] 46)
    go_enter Tryd.func88, Tryd.ntmps88
    go_wp2_with (at_builtin; refine pushLs rfl _ _ rfl (OwnL.made (Nat.le_refl _)) (hA.alloc (.cells #[] 46)) rfl rfl n (by omega) (by omega) hb0.size ?_; intro A1 c1 w1 hown hg hl)
    have hbw := hb0.trans (hown.row.lt |> fun _ => (OwnL.made (w := w) (Nat.le_refl w.heap.size)).row.belowOf hg hb0.size)
    go_wp2_with fail
    go_ret
    exact ⟨_, _, rfl, by simpa using hown, hbw⟩
end
end Go.Proofs.YtkjcmppaapbabaaDoor
