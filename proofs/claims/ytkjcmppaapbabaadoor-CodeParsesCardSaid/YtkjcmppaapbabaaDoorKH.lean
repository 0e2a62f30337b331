/-
  Plain: a code's text, and what reading a text gives. No walk of the program.
  Contracts: the program's word, Print, at every code. Conditions: the letters read; the library's tables stand as they were laid.
  Contract: the program's Print, at every code. Conditions: the letters read; the library's tables stand as they were laid.
  Contract: the document's Print, at every code. Condition: the letters read.
  Contract: the program's reader of a letter. Conditions: the library's tables stand as they were laid; the text is not long.
  Contract: the program's Parse. Conditions: the library's tables stand as they were laid; the text is not long.
-/
import Derived.Test.YtkjcmppaapbabaaDoorZ0
import Derived.Test.YtkjcmppaapbabaaDoorJA
import Derived.Test.YtkjcmppaapbabaaDoorJK
import Derived.Test.YtkjcmppaapbabaaDoorKG
import Derived.Test.YtkjcmppaapbabaaDoorJC
import Derived.Deep.RegionHeld3
import Derived.Deep.DeepCutAuto
import Derived.Laws.ResultCell
import Derived.Test.YtkjcmppaapbabaaDoorJF
import Derived.Test.YtkjcmppaapbabaaDoorJG
namespace Go.Proofs.YtkjcmppaapbabaaDoor
section
open Go
def ovC (o : Bool) : UInt8 := if o then 111 else 117
def sgC (s : Int) : UInt8 := if s = 1 then 43 else if s = -1 then 45 else 63
/-- A letter's text, a code's text. -/
def ltS (l : Lt) : List UInt8 := if l.kind = 1 then Lib.itoa l.gate ++ [46] ++ Lib.itoa l.rank else if l.kind = 2 then Lib.itoa l.id ++ [ovC l.over] ++ [sgC l.sign] else [63]
def lettersS (L : List Lt) : List UInt8 := L.flatMap (fun l => 32 :: ltS l)
def printS (K : Int) (L : List Lt) : List UInt8 := Lib.itoa K ++ [58] ++ lettersS L
theorem lettersS_snoc (L : List Lt) (l : Lt) : lettersS (L ++ [l]) = lettersS L ++ ([32] ++ ltS l) := by unfold lettersS; rw [List.flatMap_append]; simp
def lt0 : Lt := ⟨0, 0, 0, 0, 0, false⟩
def crossF (s : List UInt8) : Lt := ⟨2, 0, 0, (numF (s.take (s.length - 2))).1, if s[s.length - 1]? = some 45 then -1 else 1, s[s.length - 2]? == some 111⟩
/-- What the program's reader of a letter gives. -/
def letF (s : List UInt8) : Lt × Bool :=
  if (Lib.cut s [46]).2.2 = true then (⟨1, (numF (Lib.cut s [46]).1).1, (numF (Lib.cut s [46]).2.1).1, 0, 0, false⟩, (numF (Lib.cut s [46]).1).2 && (numF (Lib.cut s [46]).2.1).2)
  else if s.length < 3 then (lt0, false)
  else (crossF s, (numF (s.take (s.length - 2))).2 && ltS (crossF s) == s)
theorem letF_sound {s : List UInt8} (h : (letF s).2 = true) : ltS (letF s).1 = s := by
  unfold letF at h ⊢
  by_cases hc : (Lib.cut s [46]).2.2 = true
  · rw [if_pos hc] at h ⊢
    simp only [Bool.and_eq_true] at h
    have h1 := numF_sound h.1
    have h2 := numF_sound h.2
    unfold ltS
    simp only []
    rw [if_pos trivial, h1, h2]
    have := cut_sound hc
    conv => rhs; rw [this]
    simp
  · rw [if_neg hc] at h ⊢
    by_cases hl : s.length < 3
    · rw [if_pos hl] at h; cases h
    · rw [if_neg hl] at h ⊢
      simp only [Bool.and_eq_true, beq_iff_eq] at h
      exact h.2
theorem i64_of {x : Int} (h : I64 x) : -9223372036854775808 ≤ x ∧ x ≤ 9223372036854775807 := h
theorem letF_ok (s : List UInt8) : LtOk (letF s).1 := by
  have hb : ∀ t : List UInt8, I64 (numF t).1 := fun t => numF_bounds t
  have h0 : I64 0 := ⟨by omega, by omega⟩
  have h1 : I64 1 := ⟨by omega, by omega⟩
  have h2 : I64 2 := ⟨by omega, by omega⟩
  have h3 : I64 (-1) := ⟨by omega, by omega⟩
  unfold letF
  split
  · exact ⟨h1, hb _, hb _, h0, h0⟩
  · split
    · exact ⟨h0, h0, h0, h0, h0⟩
    · refine ⟨h2, h0, h0, hb _, ?_⟩
      show I64 (crossF s).sign
      unfold crossF
      simp only []
      split
      · exact h3
      · exact h1
/-- A letter that its text gives back. -/
def Nice (l : Lt) : Prop := LtOk l ∧ ((l.kind = 1 ∧ l.id = 0 ∧ l.sign = 0 ∧ l.over = false) ∨ (l.kind = 2 ∧ l.gate = 0 ∧ l.rank = 0 ∧ (l.sign = 1 ∨ l.sign = -1)))
theorem not_dot {x : Int} : (46 : UInt8) ∉ Lib.itoa x := itoa_not (by decide)
theorem not_sp {x : Int} : (32 : UInt8) ∉ Lib.itoa x := itoa_not (by decide)
theorem not_colon {x : Int} : (58 : UInt8) ∉ Lib.itoa x := itoa_not (by decide)
theorem letF_ltS {l : Lt} (h : Nice l) : letF (ltS l) = (l, true) := by
  obtain ⟨hok, h⟩ := h
  obtain ⟨k, g, r, i, s, o⟩ := l
  have hg := i64_of hok.gate
  have hr := i64_of hok.rank
  have hi := i64_of hok.id
  simp only [] at hg hr hi h
  rcases h with ⟨rfl, rfl, rfl, rfl⟩ | ⟨rfl, rfl, rfl, hs⟩
  · have e : ltS ⟨1, g, r, 0, 0, false⟩ = Lib.itoa g ++ 46 :: Lib.itoa r := by unfold ltS; simp
    rw [e]
    unfold letF
    rw [cut_at not_dot]
    simp only [if_true]
    rw [numF_itoa hg.1 hg.2, numF_itoa hr.1 hr.2]
    rfl
  · have e : ltS ⟨2, 0, 0, i, s, o⟩ = Lib.itoa i ++ [ovC o, sgC s] := by unfold ltS; simp
    have hd : (46 : UInt8) ∉ ltS ⟨2, 0, 0, i, s, o⟩ := by
      rw [e]
      intro hm
      rcases List.mem_append.1 hm with hm | hm
      · exact not_dot hm
      · rcases hs with rfl | rfl <;> cases o <;> simp [ovC, sgC] at hm
    have hl : (ltS ⟨2, 0, 0, i, s, o⟩).length = (Lib.itoa i).length + 2 := by rw [e]; simp
    have hne : 0 < (Lib.itoa i).length := by
      refine List.length_pos_iff.2 ?_
      unfold Lib.itoa
      split
      · simp
      · exact decDigits_ne _
    have ht : (ltS ⟨2, 0, 0, i, s, o⟩).take ((ltS ⟨2, 0, 0, i, s, o⟩).length - 2) = Lib.itoa i := by rw [hl, e]; simp
    have hx : (ltS ⟨2, 0, 0, i, s, o⟩)[(ltS ⟨2, 0, 0, i, s, o⟩).length - 1]? = some (sgC s) := by
      rw [hl, e, List.getElem?_append_right (by omega), show (Lib.itoa i).length + 2 - 1 - (Lib.itoa i).length = 1 by omega]; rfl
    have hy : (ltS ⟨2, 0, 0, i, s, o⟩)[(ltS ⟨2, 0, 0, i, s, o⟩).length - 2]? = some (ovC o) := by
      rw [hl, e, List.getElem?_append_right (by omega), show (Lib.itoa i).length + 2 - 2 - (Lib.itoa i).length = 0 by omega]; rfl
    have hc : crossF (ltS ⟨2, 0, 0, i, s, o⟩) = ⟨2, 0, 0, i, s, o⟩ := by
      unfold crossF
      rw [ht, hx, hy, numF_itoa hi.1 hi.2]
      rcases hs with rfl | rfl <;> cases o <;> rfl
    unfold letF
    rw [cut_no hd, hc, ht, numF_itoa hi.1 hi.2]
    simp only [Bool.false_eq_true, if_false]
    rw [if_neg (by omega)]
    simp
theorem not_sp_ltS {l : Lt} : (32 : UInt8) ∉ ltS l := by
  unfold ltS
  split
  · intro hm
    rcases List.mem_append.1 hm with hm | hm
    · rcases List.mem_append.1 hm with hm | hm
      · exact not_sp hm
      · simp at hm
    · exact not_sp hm
  · split
    · intro hm
      rcases List.mem_append.1 hm with hm | hm
      · rcases List.mem_append.1 hm with hm | hm
        · exact not_sp hm
        · unfold ovC at hm; split at hm <;> simp at hm
      · unfold sgC at hm; split at hm <;> (try split at hm) <;> simp at hm
    · simp
/-- The first word of what stands behind a blank, and the rest. -/
def wordF (t : List UInt8) : List UInt8 × List UInt8 := if 0 ≤ Lib.indexByte t 32 then (t.take (Lib.indexByte t 32).toNat, t.drop (Lib.indexByte t 32).toNat) else (t, [])
theorem wordF_parts (t : List UInt8) : t = (wordF t).1 ++ (wordF t).2 := by
  unfold wordF
  split
  · simp
  · simp
theorem wordF_le (t : List UInt8) : (wordF t).2.length ≤ t.length ∧ (wordF t).1.length ≤ t.length := by
  unfold wordF
  split
  · simp only [List.length_take, List.length_drop]; omega
  · simp
theorem wordF_nil {w : List UInt8} (h : (32 : UInt8) ∉ w) : wordF w = (w, []) := by
  unfold wordF
  rw [idx_no h, if_neg (by omega)]
theorem wordF_at {w r : List UInt8} (h : (32 : UInt8) ∉ w) : wordF (w ++ 32 :: r) = (w, 32 :: r) := by
  unfold wordF
  rw [idx_at h, if_pos (by omega)]
  simp
/-- The letters that stand in a rest of a text. -/
def loopF : Nat → List UInt8 → List Lt → Option (List Lt)
  | 0, _, _ => none
  | _ + 1, [], A => some A
  | f + 1, b :: t, A => if b = 32 then (if (letF (wordF t).1).2 = true then loopF f (wordF t).2 (A ++ [(letF (wordF t).1).1]) else none) else none
theorem loopF_sound : ∀ (f : Nat) (r : List UInt8) (A L : List Lt), loopF f r A = some L → (∀ x ∈ A, LtOk x) → (∃ M, L = A ++ M ∧ r = lettersS M) ∧ ∀ x ∈ L, LtOk x
  | 0, r, A, L, h, _ => by simp [loopF] at h
  | f + 1, [], A, L, h, hA => by
    simp only [loopF, Option.some.injEq] at h
    subst h
    exact ⟨⟨[], by simp, rfl⟩, hA⟩
  | f + 1, b :: t, A, L, h, hA => by
    simp only [loopF] at h
    by_cases hb : b = 32
    · rw [if_pos hb] at h
      by_cases hl : (letF (wordF t).1).2 = true
      · rw [if_pos hl] at h
        obtain ⟨⟨M, h1, h2⟩, h3⟩ := loopF_sound f _ _ _ h (fun x hx => by
          rcases List.mem_append.1 hx with hx | hx
          · exact hA x hx
          · simp at hx; subst hx; exact letF_ok _)
        refine ⟨⟨(letF (wordF t).1).1 :: M, by rw [h1]; simp, ?_⟩, h3⟩
        have hp := wordF_parts t
        have hs := letF_sound hl
        rw [hb]
        unfold lettersS at h2 ⊢
        rw [List.flatMap_cons, hs, ← h2]
        conv => lhs; rw [hp]
        simp
      · rw [if_neg hl] at h; cases h
    · rw [if_neg hb] at h; cases h
theorem loopF_all : ∀ (M : List Lt) (f : Nat) (A : List Lt), (∀ x ∈ M, Nice x) → M.length < f → loopF f (lettersS M) A = some (A ++ M)
  | [], f + 1, A, _, _ => by unfold lettersS; simp [loopF]
  | l :: M, f + 1, A, hn, hf => by
    have e : lettersS (l :: M) = 32 :: (ltS l ++ lettersS M) := by unfold lettersS; simp
    have hw : wordF (ltS l ++ lettersS M) = (ltS l, lettersS M) := by
      cases M with
      | nil =>
        rw [show lettersS [] = [] from rfl, List.append_nil]
        exact wordF_nil not_sp_ltS
      | cons m M =>
        rw [show lettersS (m :: M) = 32 :: (ltS m ++ lettersS M) by unfold lettersS; simp]
        exact wordF_at not_sp_ltS
    rw [e]
    simp only [loopF, if_true]
    rw [hw]
    simp only []
    rw [letF_ltS (hn l (List.mem_cons_self ..)), if_pos rfl]
    simp only []
    rw [loopF_all M f _ (fun x hx => hn x (List.mem_cons_of_mem _ hx)) (by simp at hf; omega)]
    simp
theorem loopF_more {f g : Nat} {r : List UInt8} {A : List Lt} (hf : r.length < f) (hg : r.length < g) : loopF f r A = loopF g r A := by
  induction f generalizing g r A with
  | zero => omega
  | succ f ih =>
    obtain ⟨g, rfl⟩ : ∃ g', g = g' + 1 := ⟨g - 1, by omega⟩
    cases r with
    | nil => rfl
    | cons b t =>
      simp only [loopF]
      have := (wordF_le t).1
      simp only [List.length_cons] at hf hg
      rw [ih (g := g) (by omega) (by omega)]
/-- What reading a text gives. -/
def parseF (s : List UInt8) : Option (Int × List Lt) :=
  if (Lib.cut s [58]).2.2 = true ∧ (numF (Lib.cut s [58]).1).2 = true then (loopF ((Lib.cut s [58]).2.1.length + 1) (Lib.cut s [58]).2.1 []).map (fun L => ((numF (Lib.cut s [58]).1).1, L)) else none
theorem parseF_sound {s : List UInt8} {K : Int} {L : List Lt} (h : parseF s = some (K, L)) : printS K L = s ∧ ∀ x ∈ L, LtOk x := by
  unfold parseF at h
  by_cases hc : (Lib.cut s [58]).2.2 = true ∧ (numF (Lib.cut s [58]).1).2 = true
  · rw [if_pos hc] at h
    obtain ⟨L', h1, h2⟩ := Option.map_eq_some_iff.1 h
    simp only [Prod.mk.injEq] at h2
    obtain ⟨h2, rfl⟩ := h2
    obtain ⟨⟨M, h3, h4⟩, h5⟩ := loopF_sound _ _ _ _ h1 (by simp)
    refine ⟨?_, h5⟩
    rw [List.nil_append] at h3
    subst h3
    unfold printS
    rw [← h4, ← h2, numF_sound hc.2]
    have := cut_sound hc.1
    conv => rhs; rw [this]
    simp
  · rw [if_neg hc] at h; cases h
theorem parseF_print {K : Int} {L : List Lt} (hK : I64 K) (h : ∀ x ∈ L, Nice x) : parseF (printS K L) = some (K, L) := by
  have e : printS K L = Lib.itoa K ++ 58 :: lettersS L := by unfold printS; simp
  have hle : L.length ≤ (lettersS L).length := by
    clear h e
    induction L with
    | nil => exact Nat.le_refl _
    | cons l L ih => unfold lettersS at ih ⊢; rw [List.flatMap_cons, List.length_append, List.length_cons, List.length_cons]; omega
  unfold parseF
  rw [e, cut_at not_colon, numF_itoa hK.1 hK.2]
  simp only [and_self, if_true]
  rw [loopF_all L _ [] h (by omega)]
  simp
theorem nice_of_check {K : Int} {L : List Lt} (h : checkE K L = 0) (hok : ∀ x ∈ L, LtOk x) : ∀ x ∈ L, Nice x := by
  intro x hx
  refine ⟨hok x hx, ?_⟩
  obtain ⟨i, hi, rfl⟩ := List.mem_iff_getElem.1 hx
  have hv := (check_parts h).2.2.2.resolve_left (by omega)
  unfold validB2 at hv
  simp only [Bool.and_eq_true] at hv
  have hl := hv.1.2
  unfold lettersR at hl
  have h1 := allTo_iff.1 hl i hi
  rw [show la L i = L[i] from la_of (List.getElem?_eq_getElem hi)] at h1
  unfold rlB at h1
  split at h1
  · rename_i hk
    have := of_decide_eq_true h1
    exact .inl ⟨hk, this.1, this.2.1, this.2.2.1⟩
  · split at h1
    · rename_i hk
      have := of_decide_eq_true h1
      exact .inr ⟨hk, this.1, this.2.1, this.2.2.1⟩
    · cases h1
theorem ltS_len {l : Lt} (h : LtOk l) : (ltS l).length ≤ 44 := by
  have hg := i64_of h.gate
  have hr := i64_of h.rank
  have hi := i64_of h.id
  have h1 := Lib.itoa_length_le _ hg.1 hg.2
  have h2 := Lib.itoa_length_le _ hr.1 hr.2
  have h3 := Lib.itoa_length_le _ hi.1 hi.2
  unfold ltS
  split
  · simp; omega
  · split
    · simp; omega
    · simp
theorem lettersS_len : ∀ {L : List Lt}, (∀ x ∈ L, LtOk x) → (lettersS L).length ≤ 45 * L.length
  | [], _ => by simp [lettersS]
  | l :: L, h => by
    have h1 := ltS_len (h l (List.mem_cons_self ..))
    have h2 := lettersS_len (fun x hx => h x (List.mem_cons_of_mem _ hx))
    unfold lettersS at h2 ⊢
    rw [List.flatMap_cons, List.length_append, List.length_cons, List.length_cons]
    omega
theorem printS_len {K : Int} {L : List Lt} (hK : I64 K) (h : ∀ x ∈ L, LtOk x) : (printS K L).length ≤ 45 * L.length + 22 := by
  have h1 := Lib.itoa_length_le K hK.1 hK.2
  have h2 := lettersS_len h
  unfold printS
  simp only [List.length_append, List.length_cons, List.length_nil]
  omega
end

section
open Go.RowKit
theorem itoa_le {x : Int} (hx : I64 x) : (Lib.itoa x).length ≤ 21 := Lib.itoa_length_le x hx.1 hx.2
theorem Tabs.on {w w' : World} (h : Tabs w) (hb : Below w.heap.size w w') : Tabs w' := h.below hb
set_option maxRecDepth 100000 in
set_option maxHeartbeats 1600000 in
theorem code_wordA (l : Lt) (hl : LtOk l) (w : World) (ht : Tabs w) :
    Calls Tryd.prog 114 #[.agg #[.int .i64 l.kind, .int .i64 l.gate, .int .i64 l.rank, .int .i64 l.id, .int .i64 l.sign, .bool l.over]] w fun e w' => e = .returned (.string (bA (ltS l))) ∧ Below w.heap.size w w' := by
  obtain ⟨kind, gate, rank, id, sign, over⟩ := l
  have hg : I64 gate := hl.gate
  have hr : I64 rank := hl.rank
  have hi : I64 id := hl.id
  have zG := itoa_le hg
  have zR := itoa_le hr
  have zI := itoa_le hi
  have hb0 : Below w.heap.size w (w.alloc (.cells #[.int .i64 kind, .int .i64 gate, .int .i64 rank, .int .i64 id, .int .i64 sign, .bool over] 46)) := (Below.refl _ _).alloc (Nat.le_refl _) _
  have hk0 : Blk (w.alloc (.cells #[.int .i64 kind, .int .i64 gate, .int .i64 rank, .int .i64 id, .int .i64 sign, .bool over] 46)) w.heap.size 46 #[.int .i64 kind, .int .i64 gate, .int .i64 rank, .int .i64 id, .int .i64 sign, .bool over] := Blk.new _ _ _
  have HG := Lib.hid hg
  have HR := Lib.hid hr
  have HI := Lib.hid hi
  have hsz0 := hk0.lt
  clear hl hg hr hi
  by_cases k1 : kind = 1
  · have q1 : (kind == 1) = true := by simpa using k1
    have hf := Lib.hid (show ltS ⟨kind, gate, rank, id, sign, over⟩ = Lib.itoa gate ++ 46 :: Lib.itoa rank by unfold ltS; rw [if_pos k1]; simp)
    have s1 := strAddL (Lib.itoa gate) [46] (by omega) (by simp)
    have s2 := strAddL (Lib.itoa gate ++ [46]) (Lib.itoa rank) (by simp; omega) (by omega)
    rw [show bA [46] = ⟨#[46]⟩ from rfl] at s1
    clear k1 zI zG zR
    go_enter Tryd.func114, Tryd.ntmps114
    go_wp2_with fail
    generalize w.alloc (.cells #[.int .i64 kind, .int .i64 gate, .int .i64 rank, .int .i64 id, .int .i64 sign, .bool over] 46) = X at hb0 hk0 hsz0 ⊢
    have c1 : X.cell? ⟨w.heap.size, 1, none⟩ = some (.int .i64 gate) := (hk0.cell 1).trans rfl
    have c2 : X.cell? ⟨w.heap.size, 2, none⟩ = some (.int .i64 rank) := (hk0.cell 2).trans rfl
    have KP := Lib.hid (show ∀ wx, Below X.heap.size X wx → (Below X.heap.size X wx ∧ wx.cell? ⟨w.heap.size, 1, none⟩ = some (.int .i64 gate) ∧ wx.cell? ⟨w.heap.size, 2, none⟩ = some (.int .i64 rank)) from fun wx h => ⟨h, (h.cell (p := ⟨w.heap.size, 1, none⟩) hsz0).trans c1, (h.cell (p := ⟨w.heap.size, 2, none⟩) hsz0).trans c2⟩)
    have hTX := ht.below hb0
    first
      | go_region_held3 (fun wx => Below X.heap.size X wx ∧ wx.cell? ⟨w.heap.size, 1, none⟩ = some (.int .i64 gate) ∧ wx.cell? ⟨w.heap.size, 2, none⟩ = some (.int .i64 rank)) (first | assumption | exact KP.out _ (Below.refl _ _).drew | exact KP.out _ (below_chain (And.left (by assumption)) (by assumption) (Below.size (And.left (by assumption)))))
          (first
            | (go_at_call 113; refine (itoa_any gate HG.out _ (hTX.below (And.left (by assumption)))).mono ?_; rintro e wx ⟨rfl, hb5⟩)
            | (go_at_call 113; refine (itoa_any rank HR.out _ (hTX.below (And.left (by assumption)))).mono ?_; rintro e wx ⟨rfl, hb5⟩))
      | fail
    all_goals
      have hbf := below_chain hb0 (And.left (show Below X.heap.size X _ ∧ _ by assumption)) (by have := hb0.size; omega)
      go_wp2_with fail
      go_ret
      exact ⟨by rw [hf.out]; rfl, hbf⟩
  · have q1 : (kind == 1) = false := by simpa using k1
    by_cases k2 : kind = 2
    · have q2 : (kind == 2) = true := by simpa using k2
      have hf := Lib.hid (show ltS ⟨kind, gate, rank, id, sign, over⟩ = Lib.itoa id ++ [ovC over, sgC sign] by unfold ltS; rw [if_neg k1, if_pos k2]; simp)
      have s1 := strAddL (Lib.itoa id) [117] (by omega) (by simp)
      have s2 := strAddL (Lib.itoa id) [111] (by omega) (by simp)
      have s3 := strAddL (Lib.itoa id ++ [117]) [43] (by simp; omega) (by simp)
      have s4 := strAddL (Lib.itoa id ++ [117]) [45] (by simp; omega) (by simp)
      have s5 := strAddL (Lib.itoa id ++ [117]) [63] (by simp; omega) (by simp)
      have s6 := strAddL (Lib.itoa id ++ [111]) [43] (by simp; omega) (by simp)
      have s7 := strAddL (Lib.itoa id ++ [111]) [45] (by simp; omega) (by simp)
      have s8 := strAddL (Lib.itoa id ++ [111]) [63] (by simp; omega) (by simp)
      rw [show bA [117] = ⟨#[117]⟩ from rfl] at s1
      rw [show bA [111] = ⟨#[111]⟩ from rfl] at s2
      rw [show bA [43] = ⟨#[43]⟩ from rfl] at s3 s6
      rw [show bA [45] = ⟨#[45]⟩ from rfl] at s4 s7
      rw [show bA [63] = ⟨#[63]⟩ from rfl] at s5 s8
      clear k1 k2 zG zR zI
      have hTX := ht.below hb0
      have sg : ((sign == 1) = true ∧ sgC sign = 43) ∨ ((sign == 1) = false ∧ (sign == -1) = true ∧ sgC sign = 45) ∨ ((sign == 1) = false ∧ (sign == -1) = false ∧ sgC sign = 63) := by
        unfold sgC
        by_cases h1 : sign = 1
        · exact .inl ⟨by simpa using h1, by rw [if_pos h1]⟩
        · by_cases h2 : sign = -1
          · exact .inr (.inl ⟨by simpa using h1, by simpa using h2, by rw [if_neg h1, if_pos h2]⟩)
          · exact .inr (.inr ⟨by simpa using h1, by simpa using h2, by rw [if_neg h1, if_neg h2]⟩)
      cases over with
      | false =>
        rcases sg with ⟨t1, hS⟩ | ⟨t1, t2, hS⟩ | ⟨t1, t2, hS⟩
        all_goals
          have HS := Lib.hid hS
          clear hS
          go_enter Tryd.func114, Tryd.ntmps114
          go_wp2_with fail
          generalize w.alloc (.cells #[.int .i64 kind, .int .i64 gate, .int .i64 rank, .int .i64 id, .int .i64 sign, .bool false] 46) = X at hb0 hk0 hsz0 hTX ⊢
          refine (itoa_any id HI.out _ hTX).mono ?_
          rintro e w2 ⟨rfl, hb2⟩
          have hk2 := hk0.below hb2 hsz0
          have d4 : w2.cell? ⟨w.heap.size, 4, none⟩ = some (.int .i64 sign) := (hk2.cell 4).trans rfl
          have d5 : w2.cell? ⟨w.heap.size, 5, none⟩ = some (.bool false) := (hk2.cell 5).trans rfl
          have hb3 := hb0.trans (hb2.mono hb0.size)
          clear hk2
          go_wp2_with fail
          go_ret
          exact ⟨by rw [hf.out, HS.out]; rfl, hb3⟩
      | true =>
        rcases sg with ⟨t1, hS⟩ | ⟨t1, t2, hS⟩ | ⟨t1, t2, hS⟩
        all_goals
          have HS := Lib.hid hS
          clear hS
          go_enter Tryd.func114, Tryd.ntmps114
          go_wp2_with fail
          generalize w.alloc (.cells #[.int .i64 kind, .int .i64 gate, .int .i64 rank, .int .i64 id, .int .i64 sign, .bool true] 46) = X at hb0 hk0 hsz0 hTX ⊢
          refine (itoa_any id HI.out _ hTX).mono ?_
          rintro e w2 ⟨rfl, hb2⟩
          have hk2 := hk0.below hb2 hsz0
          have d3 : w2.cell? ⟨w.heap.size, 3, none⟩ = some (.int .i64 id) := (hk2.cell 3).trans rfl
          have d5 : w2.cell? ⟨w.heap.size, 5, none⟩ = some (.bool true) := (hk2.cell 5).trans rfl
          have hb3 := hb0.trans (hb2.mono hb0.size)
          have hT2 := hTX.below hb2
          have hsz2 := hk2.lt
          go_wp2_with fail
          refine (itoa_any id HI.out _ hT2).mono ?_
          rintro e w3 ⟨rfl, hb4⟩
          have e4 : w3.cell? ⟨w.heap.size, 4, none⟩ = some (.int .i64 sign) := ((hk2.below hb4 hsz2).cell 4).trans rfl
          have hb5 := hb3.trans (hb4.mono hb3.size)
          clear d3 d5 hk2
          go_wp2_with fail
          go_ret
          exact ⟨by rw [hf.out, HS.out]; rfl, hb5⟩
    · have q2 : (kind == 2) = false := by simpa using k2
      have HF := Lib.hid (show ltS ⟨kind, gate, rank, id, sign, over⟩ = [63] by unfold ltS; rw [if_neg k1, if_neg k2])
      clear k1 k2 zG zR zI
      go_enter Tryd.func114, Tryd.ntmps114
      go_wp2_with fail
      go_ret
      exact ⟨by rw [HF.out]; rfl, hb0⟩
end

section
open Go.RowKit
theorem la_is {L : List Lt} {i : Nat} (h : i < L.length) : L[i]? = some (la L i) := by unfold la; rw [List.getElem?_eq_getElem h]; rfl
theorem take_la {L : List Lt} {i : Nat} (h : i < L.length) : L.take (i + 1) = L.take i ++ [la L i] := by rw [List.take_add_one, la_is h]; rfl
theorem printS_next {K : Int} {L : List Lt} {i : Nat} (h : i < L.length) : printS K (L.take (i + 1)) = printS K (L.take i) ++ 32 :: ltS (la L i) := by
  unfold printS
  rw [take_la h, lettersS_snoc]
  simp
theorem take_ok {L : List Lt} (i : Nat) (h : ∀ x ∈ L, LtOk x) : ∀ x ∈ L.take i, LtOk x := fun x hx => h x (List.mem_of_mem_take hx)
set_option maxRecDepth 100000 in
set_option maxHeartbeats 1600000 in
theorem code_PrintA (K : Int) (A : Option Addr) (n c : Nat) (L : List Lt) (w : World) (hA : Lets w A n L) (hn : n ≤ 1000) (hK : I64 K) (ht : Tabs w) :
    Calls Tryd.prog 73 #[.agg #[.int .i64 K, .slice A n c]] w fun e w' => e = .returned (.string (bA (printS K L))) ∧ Below w.heap.size w w' := by
  have hLn := Lib.hid hA.len
  have hbx := Boxed.refl w K A n c
  have HK := Lib.hid hK
  have hok := hA.fits
  have HOK := Lib.hid hok
  have zK := itoa_le hK
  have s0 := strAddL (Lib.itoa K) [58] (by omega) (by simp)
  rw [show bA [58] = ⟨#[58]⟩ from rfl] at s0
  have hst : Hid (bA (Lib.itoa K ++ [58]) = bA (printS K (L.take 0))) := Lib.hid (by unfold printS lettersS; simp)
  have hTX := ht.below hbx.below
  have x0 := hbx.c0
  clear hK hok
  go_enter Tryd.func73, Tryd.ntmps73
  go_wp2_with fail
  refine (itoa_any K HK.out _ hTX).mono ?_
  rintro e w1 ⟨rfl, hb1⟩
  have hb2 := hbx.more hb1
  have x1 := hb2.c1
  clear hbx hb1 x0 hTX
  go_wp2_with fail
  clear x1
  go_loopw [3, 5, 13] (fun v3 _ v13 wr => ∃ (i : Nat) (S : ByteArray), i ≤ n ∧ v13 = .int .i64 i ∧ v3 = .string S ∧ Boxed w wr K A n c ∧ Hid (S = bA (printS K (L.take i)))) (fun _ _ v13 _ => n - (intOf v13).toNat)
  case atStart => exact ⟨0, _, Nat.zero_le _, rfl, rfl, hb2, hst⟩
  case round =>
    obtain ⟨i, S, hi, rfl, rfl, hbr, HS⟩ := hrel
    clear hst hb2
    by_cases hlt : i < n
    · obtain ⟨gg, o, rfl, hgg, hx, hok⟩ := (hA.below hbr.below).at_ hlt
      obtain ⟨y0, y1, y2, y3, y4, y5⟩ := hx
      have hil : i < L.length := by rw [hLn.out]; exact hlt
      have zw := ltS_len hok
      have zp := printS_len HK.out (take_ok i HOK.out)
      have zt : (L.take i).length ≤ 1000 := by rw [List.length_take]; omega
      have s1 := strAddL [32] (ltS (la L i)) (by simp) (by omega)
      have s2 := strAddL (printS K (L.take i)) ([32] ++ ltS (la L i)) (by omega) (by simp; omega)
      rw [show bA [32] = ⟨#[32]⟩ from rfl] at s1
      rw [← HS.out] at s2
      obtain ⟨D, hD⟩ : ∃ D, D = bA ([32] ++ ltS (la L i)) := ⟨_, rfl⟩
      obtain ⟨E, hE⟩ : ∃ E, E = bA (printS K (L.take i) ++ ([32] ++ ltS (la L i))) := ⟨_, rfl⟩
      obtain ⟨W, hW⟩ : ∃ W, W = bA (ltS (la L i)) := ⟨_, rfl⟩
      rw [← hE, ← hD] at s2
      rw [← hD, ← hW] at s1
      have HS1 := Lib.hid (show E = bA (printS K (L.take (i + 1))) by rw [hE, printS_next hil]; simp)
      have HW := Lib.hid hW
      have hT := (ht.below hbr.below)
      have hOK := Lib.hid hok
      clear HS hD hE hW zw zp zt hok
      go_wp2_with fail
      refine (code_wordA (la L i) hOK.out _ (hT.below ((Below.refl _ _).alloc (Nat.le_refl _) _))).mono ?_
      rintro e w2 ⟨rfl, hb3⟩
      rw [← HW.out]
      have hbr2 := (hbr.alloc _).more hb3
      clear hb3 hbr
      go_wp2_with fail
      go_roundw
      case rel => exact ⟨i + 1, E, by omega, by go_num, rfl, hbr2, HS1⟩
      case measure => simp [intOf]; omega
    · have hin : i = n := by omega
      have hS := HS.out
      rw [hin, List.take_of_length_le (by rw [hLn.out]; exact Nat.le_refl _)] at hS
      have HS1 := Lib.hid hS
      have i1 : ¬ (i : Int) < (n : Int) := by omega
      clear hS hin HS
      go_wp2_with fail
      go_ret
      exact ⟨by rw [← HS1.out]; rfl, hbr.below⟩
end

section
open Go.RowKit
theorem sg_cases (sign : Int) : ((sign == 1) = true ∧ sgC sign = 43) ∨ ((sign == 1) = false ∧ (sign == -1) = true ∧ sgC sign = 45) ∨ ((sign == 1) = false ∧ (sign == -1) = false ∧ sgC sign = 63) := by
  unfold sgC
  by_cases h1 : sign = 1
  · exact .inl ⟨by simpa using h1, by rw [if_pos h1]⟩
  · by_cases h2 : sign = -1
    · exact .inr (.inl ⟨by simpa using h1, by simpa using h2, by rw [if_neg h1, if_pos h2]⟩)
    · exact .inr (.inr ⟨by simpa using h1, by simpa using h2, by rw [if_neg h1, if_neg h2]⟩)
set_option maxRecDepth 100000 in
set_option maxHeartbeats 6400000 in
theorem cref_PrintA (K : Int) (A : Option Addr) (n c : Nat) (L : List Lt) (w : World) (hA : Lets w A n L) (hn : n ≤ 1000) (hK : I64 K) :
    Calls Tryd.prog 74 #[.agg #[.int .i64 K, .slice A n c]] w fun e w' => e = .returned (.string (bA (printS K L))) ∧ Below w.heap.size w w' := by
  have hLn := Lib.hid hA.len
  have hbx := Boxed.refl w K A n c
  have HK := Lib.hid hK
  have hok := hA.fits
  have HOK := Lib.hid hok
  have zK := itoa_le hK
  have s0 := strAddL (Lib.itoa K) [58] (by omega) (by simp)
  rw [show bA [58] = ⟨#[58]⟩ from rfl] at s0
  have hst : Hid (bA (Lib.itoa K ++ [58]) = bA (printS K (L.take 0))) := Lib.hid (by unfold printS lettersS; simp)
  have x0 := hbx.c0
  clear hK hok
  go_enter Tryd.func74, Tryd.ntmps74
  go_wp2_with fail
  refine (ref_Number K HK.out _).mono ?_
  rintro e w1 ⟨rfl, hb1⟩
  have hb2 := hbx.more hb1
  clear hbx hb1 x0
  go_wp2_with fail
  go_loopw [3, 4, 5, 6] (fun v3 v4 _ _ wr => ∃ (i : Nat) (S : ByteArray), i ≤ n ∧ v4 = .int .i64 i ∧ v3 = .string S ∧ Boxed w wr K A n c ∧ Hid (S = bA (printS K (L.take i)))) (fun _ v4 _ _ _ => n - (intOf v4).toNat)
  case atStart => exact ⟨0, _, Nat.zero_le _, rfl, rfl, hb2, hst⟩
  case round =>
    obtain ⟨i, S, hi, rfl, rfl, hbr, HS⟩ := hrel
    clear hst hb2
    have x1 := hbr.c1
    by_cases hlt : i < n
    · obtain ⟨gg, o, rfl, hgg, hx, hok⟩ := (hA.below hbr.below).at_ hlt
      obtain ⟨y0, y1, y2, y3, y4, y5⟩ := hx
      have hil : i < L.length := by rw [hLn.out]; exact hlt
      have zw := ltS_len hok
      have zp := printS_len HK.out (take_ok i HOK.out)
      have zt : (L.take i).length ≤ 1000 := by rw [List.length_take]; omega
      have i0 : (0 : Int) ≤ (i : Int) := by omega
      have i1 : (i : Int) < (n : Int) := by omega
      have s1 := strAddL (printS K (L.take i)) [32] (by omega) (by simp)
      have s2 := strAddL (printS K (L.take i) ++ [32]) (ltS (la L i)) (by simp; omega) (by omega)
      rw [show bA [32] = ⟨#[32]⟩ from rfl] at s1
      rw [← HS.out] at s1
      obtain ⟨D, hD⟩ : ∃ D, D = bA (printS K (L.take i) ++ [32]) := ⟨_, rfl⟩
      obtain ⟨E, hE⟩ : ∃ E, E = bA ((printS K (L.take i) ++ [32]) ++ ltS (la L i)) := ⟨_, rfl⟩
      obtain ⟨W, hW⟩ : ∃ W, W = bA (ltS (la L i)) := ⟨_, rfl⟩
      rw [← hE, ← hD, ← hW] at s2
      rw [← hD] at s1
      have HS1 := Lib.hid (show E = bA (printS K (L.take (i + 1))) by rw [hE, printS_next hil]; simp)
      have HW := Lib.hid hW
      have HLN := Lib.hid (show I64 (la L i).gate ∧ I64 (la L i).rank ∧ I64 (la L i).id from ⟨hok.gate, hok.rank, hok.id⟩)
      obtain ⟨kind, hk⟩ : ∃ k, (la L i).kind = k := ⟨_, rfl⟩
      obtain ⟨gate, hg⟩ : ∃ k, (la L i).gate = k := ⟨_, rfl⟩
      obtain ⟨rank, hr⟩ : ∃ k, (la L i).rank = k := ⟨_, rfl⟩
      obtain ⟨id, hid⟩ : ∃ k, (la L i).id = k := ⟨_, rfl⟩
      obtain ⟨sign, hs⟩ : ∃ k, (la L i).sign = k := ⟨_, rfl⟩
      obtain ⟨over, ho⟩ : ∃ k, (la L i).over = k := ⟨_, rfl⟩
      have hl : la L i = ⟨kind, gate, rank, id, sign, over⟩ := by rw [← hk, ← hg, ← hr, ← hid, ← hs, ← ho]
      rw [hk] at y0
      rw [hg] at y1
      rw [hr] at y2
      rw [hid] at y3
      rw [hs] at y4
      rw [ho] at y5
      rw [hg, hr, hid] at HLN
      rw [hl] at HW
      have zG := itoa_le HLN.out.1
      have zR := itoa_le HLN.out.2.1
      have zI := itoa_le HLN.out.2.2
      clear HS hD hE hW zw zp zt hok hk hg hr hid hs ho hl
      go_upto_region 6 with fail
      obtain ⟨X, hX⟩ : ∃ X, X = wr.alloc (.cells #[.int .i64 kind, .int .i64 gate, .int .i64 rank, .int .i64 id, .int .i64 sign, .bool over] 46) := ⟨_, rfl⟩
      rw [← hX]
      have hk0 : Blk X wr.heap.size 46 #[.int .i64 kind, .int .i64 gate, .int .i64 rank, .int .i64 id, .int .i64 sign, .bool over] := by rw [hX]; exact Blk.new _ _ _
      have hbX : Boxed w X K (some ⟨gg, o, none⟩) n c := by rw [hX]; exact hbr.alloc _
      have hsz0 := hk0.lt
      clear hX y0 y1 y2 y3 y4 y5 x1 hbr
      have c0 : X.cell? ⟨wr.heap.size, 0, none⟩ = some (.int .i64 kind) := (hk0.cell 0).trans rfl
      have c1 : X.cell? ⟨wr.heap.size, 1, none⟩ = some (.int .i64 gate) := (hk0.cell 1).trans rfl
      have c2 : X.cell? ⟨wr.heap.size, 2, none⟩ = some (.int .i64 rank) := (hk0.cell 2).trans rfl
      have c3 : X.cell? ⟨wr.heap.size, 3, none⟩ = some (.int .i64 id) := (hk0.cell 3).trans rfl
      by_cases k1 : kind = 1
      · have q1 : (kind == 1) = true := by simpa using k1
        have q2 : (kind == 2) = false := by simp; omega
        have hf := show W = bA (Lib.itoa gate ++ 46 :: Lib.itoa rank) by rw [HW.out]; unfold ltS; rw [if_pos k1]; simp
        have t1 := strAddL (Lib.itoa gate) [46] (by omega) (by simp)
        have t2 := strAddL (Lib.itoa gate ++ [46]) (Lib.itoa rank) (by simp; omega) (by omega)
        rw [show bA [46] = ⟨#[46]⟩ from rfl] at t1
        rw [hf] at s2
        clear k1 zI zG zR HW hf
        have KP := Lib.hid (show ∀ wx, Below X.heap.size X wx → (Below X.heap.size X wx ∧ wx.cell? ⟨wr.heap.size, 1, none⟩ = some (.int .i64 gate) ∧ wx.cell? ⟨wr.heap.size, 2, none⟩ = some (.int .i64 rank)) from fun wx h => ⟨h, (h.cell (p := ⟨wr.heap.size, 1, none⟩) hsz0).trans c1, (h.cell (p := ⟨wr.heap.size, 2, none⟩) hsz0).trans c2⟩)
        go_wp2_with fail
        first
          | go_region_held3 (fun wx => Below X.heap.size X wx ∧ wx.cell? ⟨wr.heap.size, 1, none⟩ = some (.int .i64 gate) ∧ wx.cell? ⟨wr.heap.size, 2, none⟩ = some (.int .i64 rank)) (first | assumption | exact KP.out _ (Below.refl _ _).drew | exact KP.out _ (below_chain (And.left (by assumption)) (by assumption) (Below.size (And.left (by assumption)))))
              (first
                | (go_at_call 115; refine (ref_Number gate HLN.out.1 _).mono ?_; rintro e wx ⟨rfl, hb5⟩)
                | (go_at_call 115; refine (ref_Number rank HLN.out.2.1 _).mono ?_; rintro e wx ⟨rfl, hb5⟩))
          | fail
        all_goals
          have hbf := And.left (show Below X.heap.size X _ ∧ _ by assumption)
          have e0 : World.cell? _ ⟨wr.heap.size, 0, none⟩ = some (.int .i64 kind) := ((hk0.below hbf hsz0).cell 0).trans rfl
          clear hk0
          have hbr2 := hbX.more hbf
          clear hbX
          go_wp2_with fail
          go_roundw
          case rel => exact ⟨i + 1, E, by omega, by go_num, rfl, hbr2, HS1⟩
          case measure => simp [intOf]; omega
      · have q1 : (kind == 1) = false := by simpa using k1
        by_cases k2 : kind = 2
        · have q2 : (kind == 2) = true := by simpa using k2
          have t1 := strAddL (Lib.itoa id) [117] (by omega) (by simp)
          have t2 := strAddL (Lib.itoa id) [111] (by omega) (by simp)
          have t3 := strAddL (Lib.itoa id ++ [117]) [43] (by simp; omega) (by simp)
          have t4 := strAddL (Lib.itoa id ++ [117]) [45] (by simp; omega) (by simp)
          have t5 := strAddL (Lib.itoa id ++ [117]) [63] (by simp; omega) (by simp)
          have t6 := strAddL (Lib.itoa id ++ [111]) [43] (by simp; omega) (by simp)
          have t7 := strAddL (Lib.itoa id ++ [111]) [45] (by simp; omega) (by simp)
          have t8 := strAddL (Lib.itoa id ++ [111]) [63] (by simp; omega) (by simp)
          rw [show bA [117] = ⟨#[117]⟩ from rfl] at t1
          rw [show bA [111] = ⟨#[111]⟩ from rfl] at t2
          rw [show bA [43] = ⟨#[43]⟩ from rfl] at t3 t6
          rw [show bA [45] = ⟨#[45]⟩ from rfl] at t4 t7
          rw [show bA [63] = ⟨#[63]⟩ from rfl] at t5 t8
          clear zG zR zI c1 c2
          cases over with
          | false =>
            rcases sg_cases sign with ⟨n1, hS⟩ | ⟨n1, n2, hS⟩ | ⟨n1, n2, hS⟩
            all_goals
              have hf := show W = bA (Lib.itoa id ++ [ovC false, sgC sign]) by rw [HW.out]; unfold ltS; rw [if_neg k1, if_pos k2]; simp
              rw [hS, show ovC false = 117 from rfl] at hf
              rw [hf] at s2
              clear hS hf HW
              go_wp2_with fail
              refine (ref_Number id HLN.out.2.2 _).mono ?_
              rintro e w2 ⟨rfl, hb3⟩
              have hk2 := hk0.below hb3 hsz0
              have d4 : w2.cell? ⟨wr.heap.size, 4, none⟩ = some (.int .i64 sign) := (hk2.cell 4).trans rfl
              have d5 : w2.cell? ⟨wr.heap.size, 5, none⟩ = some (.bool false) := (hk2.cell 5).trans rfl
              clear hk2 hk0
              have hbr2 := hbX.more hb3
              clear hbX
              go_wp2_with fail
              go_roundw
              case rel => exact ⟨i + 1, E, by omega, by go_num, rfl, hbr2, HS1⟩
              case measure => simp [intOf]; omega
          | true =>
            rcases sg_cases sign with ⟨n1, hS⟩ | ⟨n1, n2, hS⟩ | ⟨n1, n2, hS⟩
            all_goals
              have hf := show W = bA (Lib.itoa id ++ [ovC true, sgC sign]) by rw [HW.out]; unfold ltS; rw [if_neg k1, if_pos k2]; simp
              rw [hS, show ovC true = 111 from rfl] at hf
              rw [hf] at s2
              clear hS hf HW
              go_wp2_with fail
              refine (ref_Number id HLN.out.2.2 _).mono ?_
              rintro e w2 ⟨rfl, hb3⟩
              have hk2 := hk0.below hb3 hsz0
              have d3 : w2.cell? ⟨wr.heap.size, 3, none⟩ = some (.int .i64 id) := (hk2.cell 3).trans rfl
              have d5 : w2.cell? ⟨wr.heap.size, 5, none⟩ = some (.bool true) := (hk2.cell 5).trans rfl
              have hsz2 := hk2.lt
              go_wp2_with fail
              refine (ref_Number id HLN.out.2.2 _).mono ?_
              rintro e w3 ⟨rfl, hb4⟩
              have e4 : w3.cell? ⟨wr.heap.size, 4, none⟩ = some (.int .i64 sign) := ((hk2.below hb4 hsz2).cell 4).trans rfl
              have hb5 := hb3.trans (hb4.mono hb3.size)
              clear d3 d5 hk2 hk0
              have hbr2 := hbX.more hb5
              clear hbX
              go_wp2_with fail
              go_roundw
              case rel => exact ⟨i + 1, E, by omega, by go_num, rfl, hbr2, HS1⟩
              case measure => simp [intOf]; omega
        · have q2 : (kind == 2) = false := by simpa using k2
          have hf := show W = bA [63] by rw [HW.out]; unfold ltS; rw [if_neg k1, if_neg k2]
          rw [hf, show bA [63] = ⟨#[63]⟩ from rfl] at s2
          have hb3 := Below.refl X.heap.size X
          clear k1 k2 zG zR zI HW hf
          have hbr2 := hbX.more hb3
          clear hbX
          go_wp2_with fail
          go_roundw
          case rel => exact ⟨i + 1, E, by omega, by go_num, rfl, hbr2, HS1⟩
          case measure => simp [intOf]; omega
    · have hin : i = n := by omega
      have hS := HS.out
      rw [hin, List.take_of_length_le (by rw [hLn.out]; exact Nat.le_refl _)] at hS
      have HS1 := Lib.hid hS
      have i1 : ¬ (i : Int) < (n : Int) := by omega
      clear hS hin HS
      go_wp2_with fail
      go_ret
      exact ⟨by rw [← HS1.out]; rfl, hbr.below⟩
end

section
open Go.RowKit
theorem cut_any (s : List UInt8) (c : UInt8) (hs : s.length ≤ 100000) (w : World) (ht : Tabs w) :
    Calls Tryd.prog 116 #[.string (bA s), .string (bA [c])] w fun e w' => e = .returned (.tuple #[.string (bA (Lib.cut s [c]).1), .string (bA (Lib.cut s [c]).2.1), .bool (Lib.cut s [c]).2.2]) ∧ Below w.heap.size w w' := by
  obtain ⟨m, hm⟩ := ht.most
  have h := Tryd.strings_Cut (bA s) (bA [c]) m w (by rw [bA_size]; omega) hm
  rw [bA_list, bA_list] at h
  refine h.mono ?_
  rintro e w' ⟨rfl, n, rfl⟩
  exact ⟨rfl, below_drewN (Below.refl _ _) n⟩
theorem unwanted_stepZ {c : Bool} {X Y : Prop} (h : c = false) (hy : Y) : if c = true then X else Y := by rw [h]; simpa using hy
theorem ex_take (s : List UInt8) (m : Nat) : (bA s).extract 0 m = bA (s.take m) := by
  apply ByteArray.ext
  apply Array.ext'
  simp [bA]
theorem ex_drop (s : List UInt8) (k : Nat) : (bA s).extract k s.length = bA (s.drop k) := by
  apply ByteArray.ext
  apply Array.ext'
  simp [bA]
  exact List.take_of_length_le (by simp)
theorem bA_get {s : List UInt8} {m : Nat} (h : m < (bA s).size) : s[m]? = some (bA s)[m] := by
  have h' : m < s.length := by rw [bA_size] at h; exact h
  rw [List.getElem?_eq_getElem h']
  rfl
theorem Blk.six {w : World} {g : Nat} {t : TypeId} {v0 v1 v2 v3 v4 v5 : Value} (h : Blk w g t #[v0, v1, v2, v3, v4, v5]) :
    (w.cell? ⟨g, 0, none⟩ = some v0 ∧ w.cell? ⟨g, 1, none⟩ = some v1 ∧ w.cell? ⟨g, 2, none⟩ = some v2 ∧ w.cell? ⟨g, 3, none⟩ = some v3 ∧ w.cell? ⟨g, 4, none⟩ = some v4 ∧ w.cell? ⟨g, 5, none⟩ = some v5) ∧
    (w.frozen? ⟨g, 0, none⟩ = false ∧ w.frozen? ⟨g, 1, none⟩ = false ∧ w.frozen? ⟨g, 2, none⟩ = false ∧ w.frozen? ⟨g, 3, none⟩ = false ∧ w.frozen? ⟨g, 4, none⟩ = false ∧ w.frozen? ⟨g, 5, none⟩ = false) :=
  ⟨⟨(h.cell 0).trans rfl, (h.cell 1).trans rfl, (h.cell 2).trans rfl, (h.cell 3).trans rfl, (h.cell 4).trans rfl, (h.cell 5).trans rfl⟩, h.frozen 0, h.frozen 1, h.frozen 2, h.frozen 3, h.frozen 4, h.frozen 5⟩
/-- A letter, stored into a block of the call's own. -/
theorem Blk.store6 {w : World} {g : Nat} {t : TypeId} {v0 v1 v2 v3 v4 v5 : Value} (h : Blk w g t #[v0, v1, v2, v3, v4, v5]) (u0 u1 u2 u3 u4 u5 : Value) :
    Blk ((((((w.setCell ⟨g, 0, none⟩ u0).setCell ⟨g, 1, none⟩ u1).setCell ⟨g, 2, none⟩ u2).setCell ⟨g, 3, none⟩ u3).setCell ⟨g, 4, none⟩ u4).setCell ⟨g, 5, none⟩ u5) g t #[u0, u1, u2, u3, u4, u5] := (((((h.set_ 0 _).set_ 1 _).set_ 2 _).set_ 3 _).set_ 4 _).set_ 5 _
theorem below_store6 {a w : World} {g B : Nat} (h : Below B a w) (hB : B ≤ g) (u0 u1 u2 u3 u4 u5 : Value) :
    Below B a ((((((w.setCell ⟨g, 0, none⟩ u0).setCell ⟨g, 1, none⟩ u1).setCell ⟨g, 2, none⟩ u2).setCell ⟨g, 3, none⟩ u3).setCell ⟨g, 4, none⟩ u4).setCell ⟨g, 5, none⟩ u5) :=
  (((((h.setCell (p := ⟨g, 0, none⟩) hB _).setCell (p := ⟨g, 1, none⟩) hB _).setCell (p := ⟨g, 2, none⟩) hB _).setCell (p := ⟨g, 3, none⟩) hB _).setCell (p := ⟨g, 4, none⟩) hB _).setCell (p := ⟨g, 5, none⟩) hB _
set_option maxRecDepth 100000 in
set_option maxHeartbeats 51200000 in
theorem code_letterA (s : List UInt8) (hs : s.length ≤ 100000) (w : World) (ht : Tabs w) :
    Calls Tryd.prog 119 #[.string (bA s)] w fun e w' => e = .returned (.tuple #[ltV (letF s).1, .bool (letF s).2]) ∧ Below w.heap.size w w' := by
  have hcut := cut_any s 46 hs
  rw [show bA [46] = ⟨#[46]⟩ from rfl] at hcut
  have hle := cut_le s 46
  obtain ⟨a, ha⟩ : ∃ a, a = (Lib.cut s [46]).1 := ⟨_, rfl⟩
  obtain ⟨b, hb⟩ : ∃ b, b = (Lib.cut s [46]).2.1 := ⟨_, rfl⟩
  have hb0 : Below w.heap.size w (w.alloc (.cells #[.int .i64 0, .int .i64 0, .int .i64 0, .int .i64 0, .int .i64 0, .bool false] 46)) := (Below.refl _ _).alloc (Nat.le_refl _) _
  have hk0 : Blk (w.alloc (.cells #[.int .i64 0, .int .i64 0, .int .i64 0, .int .i64 0, .int .i64 0, .bool false] 46)) w.heap.size 46 #[.int .i64 0, .int .i64 0, .int .i64 0, .int .i64 0, .int .i64 0, .bool false] := Blk.new _ _ _
  have hsz0 := hk0.lt
  have hTX := ht.below hb0
  by_cases hc : (Lib.cut s [46]).2.2 = true
  · have hf : letF s = (⟨1, (numF a).1, (numF b).1, 0, 0, false⟩, (numF a).2 && (numF b).2) := by unfold letF; rw [if_pos hc, ha, hb]
    rw [hc, ← ha, ← hb] at hcut
    rw [← ha, ← hb] at hle
    have na := code_number a (by omega)
    have nb := code_number b (by omega)
    generalize numF a = x at hf na
    generalize numF b = y at hf nb
    obtain ⟨g, p⟩ := x
    obtain ⟨r, q⟩ := y
    simp only [] at hf na nb
    have HF := Lib.hid hf
    have HC := Lib.hid hcut
    have NA := Lib.hid na
    have NB := Lib.hid nb
    clear hc ha hb hf hcut na nb hle
    rw [HF.out]
    cases p with
    | true =>
      show Calls Tryd.prog 119 #[.string (bA s)] w fun e w' => e = .returned (.tuple #[ltV ⟨1, g, r, 0, 0, false⟩, .bool q]) ∧ Below w.heap.size w w'
      clear HF
      go_enter Tryd.func119, Tryd.ntmps119
      go_wp2_with fail
      generalize w.alloc (.cells #[.int .i64 0, .int .i64 0, .int .i64 0, .int .i64 0, .int .i64 0, .bool false] 46) = X at hb0 hk0 hsz0 hTX ⊢
      refine (HC.out _ hTX).mono ?_
      rintro e w1 ⟨rfl, hb1⟩
      have hT1 := hTX.below hb1
      go_wp2_with fail
      refine (NA.out _ hT1).mono ?_
      rintro e w2 ⟨rfl, hb2⟩
      have hT2 := hT1.below hb2
      go_wp2_with fail
      refine (NB.out _ hT2).mono ?_
      rintro e w3 ⟨rfl, hb3⟩
      have hb4 := (hb1.trans (hb2.mono hb1.size)).trans (hb3.mono (by have := hb1.size; have := hb2.size; omega))
      have hk4 := hk0.below hb4 hsz0
      have hb5 := hb0.trans (hb4.mono hb0.size)
      obtain ⟨⟨f0, f1, f2, f3, f4, f5⟩, z0, z1, z2, z3, z4, z5⟩ := hk4.six
      have hS := hk4.store6 (.int .i64 1) (.int .i64 g) (.int .i64 r) (.int .i64 0) (.int .i64 0) (.bool false)
      have hb6 := below_store6 hb5 (Nat.le_refl _) (.int .i64 1) (.int .i64 g) (.int .i64 r) (.int .i64 0) (.int .i64 0) (.bool false)
      clear hb1 hb2 hb3 hb4 hb5
      go_wp2_with fail
      (try simp only [Exit.inBlock, Exit.then])
      exact ret_cellT rfl rfl rfl hS Tryd.underlying46 rfl (by kernel_rfl) rfl ⟨rfl, hb6⟩
    | false =>
      show Calls Tryd.prog 119 #[.string (bA s)] w fun e w' => e = .returned (.tuple #[ltV ⟨1, g, r, 0, 0, false⟩, .bool false]) ∧ Below w.heap.size w w'
      clear HF
      go_enter Tryd.func119, Tryd.ntmps119
      go_wp2_with fail
      generalize w.alloc (.cells #[.int .i64 0, .int .i64 0, .int .i64 0, .int .i64 0, .int .i64 0, .bool false] 46) = X at hb0 hk0 hsz0 hTX ⊢
      refine (HC.out _ hTX).mono ?_
      rintro e w1 ⟨rfl, hb1⟩
      have hT1 := hTX.below hb1
      go_wp2_with fail
      refine (NA.out _ hT1).mono ?_
      rintro e w2 ⟨rfl, hb2⟩
      have hT2 := hT1.below hb2
      go_wp2_with fail
      refine (NB.out _ hT2).mono ?_
      rintro e w3 ⟨rfl, hb3⟩
      have hb4 := (hb1.trans (hb2.mono hb1.size)).trans (hb3.mono (by have := hb1.size; have := hb2.size; omega))
      have hk4 := hk0.below hb4 hsz0
      have hb5 := hb0.trans (hb4.mono hb0.size)
      obtain ⟨⟨f0, f1, f2, f3, f4, f5⟩, z0, z1, z2, z3, z4, z5⟩ := hk4.six
      have hS := hk4.store6 (.int .i64 1) (.int .i64 g) (.int .i64 r) (.int .i64 0) (.int .i64 0) (.bool false)
      have hb6 := below_store6 hb5 (Nat.le_refl _) (.int .i64 1) (.int .i64 g) (.int .i64 r) (.int .i64 0) (.int .i64 0) (.bool false)
      clear hb1 hb2 hb3 hb4 hb5
      go_wp2_with fail
      (try simp only [Exit.inBlock, Exit.then])
      exact ret_cellT rfl rfl rfl hS Tryd.underlying46 rfl (by kernel_rfl) rfl ⟨rfl, hb6⟩
  · have hc' : (Lib.cut s [46]).2.2 = false := by simpa using hc
    rw [hc', ← ha, ← hb] at hcut
    have HC := Lib.hid hcut
    have hsl : (bA s).size = s.length := bA_size s
    by_cases h3' : s.length < 3
    · have hf : letF s = (lt0, false) := by unfold letF; rw [if_neg hc, if_pos h3']
      have i3 : (s.length : Int) < 3 := by omega
      have HF := Lib.hid hf
      rw [HF.out]
      clear hc hc' ha hb hcut hle h3' hf HF
      go_enter Tryd.func119, Tryd.ntmps119
      go_wp2_with fail
      generalize w.alloc (.cells #[.int .i64 0, .int .i64 0, .int .i64 0, .int .i64 0, .int .i64 0, .bool false] 46) = X at hb0 hk0 hsz0 hTX ⊢
      refine (HC.out _ hTX).mono ?_
      rintro e w1 ⟨rfl, hb1⟩
      have hk4 := hk0.below hb1 hsz0
      have hb5 := hb0.trans (hb1.mono hb0.size)
      obtain ⟨⟨f0, f1, f2, f3, f4, f5⟩, z0, z1, z2, z3, z4, z5⟩ := hk4.six
      have hS := hk4.store6 (.int .i64 0) (.int .i64 0) (.int .i64 0) (.int .i64 0) (.int .i64 0) (.bool false)
      have hb6 := below_store6 hb5 (Nat.le_refl _) (.int .i64 0) (.int .i64 0) (.int .i64 0) (.int .i64 0) (.int .i64 0) (.bool false)
      clear hb1 hb5
      go_wp2_with fail
      (try simp only [Exit.inBlock, Exit.then])
      exact ret_cellT rfl rfl rfl hS Tryd.underlying46 rfl (by kernel_rfl) rfl ⟨rfl, hb6⟩
    · have hf : letF s = (crossF s, (numF (s.take (s.length - 2))).2 && ltS (crossF s) == s) := by unfold letF; rw [if_neg hc, if_neg h3']
      have i3 : decide ((s.length : Int) < 3) = false := by simp; omega
      have HF := Lib.hid hf
      rw [HF.out]
      obtain ⟨m, hm⟩ : ∃ m : Nat, s.length = m + 2 := ⟨s.length - 2, by omega⟩
      have hz1 : m < (bA s).size := by omega
      have hz2 : m + 1 < (bA s).size := by omega
      obtain ⟨ob, hob⟩ : ∃ ob, ob = (s[m]? == some 111) := ⟨_, rfl⟩
      obtain ⟨nb, hnb⟩ : ∃ nb, nb = decide (s[m + 1]? = some 45) := ⟨_, rfl⟩
      have E2 : ((((bA s)[m]'hz1).toNat : Int) == 111) = ob := by
        rw [hob, bA_get hz1, Bool.eq_iff_iff]
        simp only [beq_iff_eq, Option.some.injEq]
        constructor
        · intro h; exact UInt8.toNat_inj.1 (by have : (111 : UInt8).toNat = 111 := rfl; omega)
        · intro h; rw [h]; rfl
      have E1 : ((((bA s)[m + 1]'hz2).toNat : Int) == 45) = nb := by
        rw [hnb, bA_get hz2, Bool.eq_iff_iff]
        simp only [beq_iff_eq, Option.some.injEq, decide_eq_true_eq]
        constructor
        · intro h; exact UInt8.toNat_inj.1 (by have : (45 : UInt8).toNat = 45 := rfl; omega)
        · intro h; rw [h]; rfl
      have hcn := code_number (s.take m) (by rw [List.length_take]; omega)
      have hl : ∀ v p, numF (s.take m) = (v, p) → (crossF s, (numF (s.take (s.length - 2))).2 && ltS (crossF s) == s) = ((⟨2, 0, 0, v, if nb then -1 else 1, ob⟩ : Lt), p && ltS ⟨2, 0, 0, v, if nb then -1 else 1, ob⟩ == s) := by
        intro v p hv
        have h1 : crossF s = ⟨2, 0, 0, v, if nb then -1 else 1, ob⟩ := by
          unfold crossF
          rw [show s.length - 2 = m by omega, show s.length - 1 = m + 1 by omega, hv, ← hob, hnb]
          simp only [decide_eq_true_eq]
        rw [h1, show s.length - 2 = m by omega, hv]
      have hvb := numF_bounds (s.take m)
      cases hnf : numF (s.take m) with
      | mk v p =>
      rw [hl v p hnf]
      simp only []
      rw [hnf] at hcn hvb
      have hvI : I64 v := hvb
      have HV := Lib.hid hvI
      have HN := Lib.hid hcn
      have hx := ex_take s m
      obtain ⟨sg, hsg⟩ : ∃ sg : Int, sg = if nb then -1 else 1 := ⟨_, rfl⟩
      rw [← hsg]
      obtain ⟨eb, heb⟩ : ∃ eb, eb = (ltS ⟨2, 0, 0, v, sg, ob⟩ == s) := ⟨_, rfl⟩
      have h3 := same_text (ltS ⟨2, 0, 0, v, sg, ob⟩) s
      rw [← heb] at h3
      have h2I : I64 2 := ⟨by omega, by omega⟩
      have h0I : I64 0 := ⟨by omega, by omega⟩
      have hsI : I64 sg := by rw [hsg]; split <;> exact ⟨by omega, by omega⟩
      have hLok : LtOk ⟨2, 0, 0, v, sg, ob⟩ := ⟨h2I, h0I, h0I, hvI, hsI⟩
      have HW := Lib.hid (fun w' ht' => code_wordA ⟨2, 0, 0, v, sg, ob⟩ hLok w' ht')
      have HEB := Lib.hid heb
      rw [← heb]
      have HM := Lib.hid hm
      have j1 : (s.length : Int) - 2 = (m : Int) := by omega
      have j2 : IntKind.i64.wrap (m : Int) = (m : Int) := IntWalk.i64_in _ (by omega)
      have j3 : (0 : Int) ≤ (m : Int) := by omega
      have j4 : (m : Int) ≤ (s.length : Int) := by omega
      have j5 : (m : Int) < (s.length : Int) := by omega
      have j6 : (s.length : Int) - 1 = (m : Int) + 1 := by omega
      have j7 : IntKind.i64.wrap ((m : Int) + 1) = (m : Int) + 1 := IntWalk.i64_in _ (by omega)
      have j8 : (0 : Int) ≤ (m : Int) + 1 := by omega
      have j9 : (m : Int) + 1 < (s.length : Int) := by omega
      clear hc hc' ha hb hcut hle h3' hf HF hm hl hvb hnf hcn hvI hob hnb heb hsI hLok h2I h0I
      have hT := hTX
      have HSG := Lib.hid hsg
      clear hsg
      go_enter Tryd.func119, Tryd.ntmps119
      go_wp2_with fail
      generalize w.alloc (.cells #[.int .i64 0, .int .i64 0, .int .i64 0, .int .i64 0, .int .i64 0, .bool false] 46) = X at hb0 hk0 hsz0 hTX ⊢
      refine (HC.out _ hTX).mono ?_
      rintro e w1 ⟨rfl, hb1⟩
      have hT1 := hTX.below hb1
      go_wp2_with fail
      refine (HN.out _ hT1).mono ?_
      rintro e w2 ⟨rfl, hb2⟩
      have hT2 := hT1.below hb2
      have hb3 := hb1.trans (hb2.mono hb1.size)
      have hk3 := hk0.below hb3 hsz0
      have hb4 := hb0.trans (hb3.mono hb0.size)
      clear hx hb1 hb2 hb3 hk0 hT1
      go_upto_if 64 with fail
      go_cut [13] (fun v13 wz => v13 = .pointer (some ⟨w2.heap.size, 0, none⟩) ∧ Blk wz w2.heap.size 46 #[.int .i64 2, .int .i64 0, .int .i64 0, .int .i64 v, .int .i64 sg, .bool ob] ∧ Below w2.heap.size w2 wz)
      case first =>
        cases nb with
        | false =>
          have hs1 : (1 : Int) = sg := by rw [HSG.out]; rfl
          go_wp2_with fail
          go_meet
          case rel => exact ⟨rfl, by rw [← hs1]; exact Blk.new _ _ _, (Below.refl _ _).alloc (Nat.le_refl _) _⟩
        | true =>
          have hs1 : (-1 : Int) = sg := by rw [HSG.out]; rfl
          go_wp2_with fail
          go_meet
          case rel => exact ⟨rfl, by rw [← hs1]; exact Blk.new _ _ _, (Below.refl _ _).alloc (Nat.le_refl _) _⟩
      case rest =>
        obtain ⟨rfl, hkl, hbw⟩ := hcut
        have hkr := hk3.below hbw hk3.lt
        have hTV := hT2.below hbw
        have hbV := hb4.trans (hbw.mono hb4.size)
        clear hk3 hb4 hT2 hbw E1 E2
        obtain ⟨⟨l0, l1, l2, l3, l4, l5⟩, _⟩ := hkl.six
        obtain ⟨⟨f0, f1, f2, f3, f4, f5⟩, z0, z1, z2, z3, z4, z5⟩ := hkr.six
        have hszl := hkl.lt
        have hszr := hkr.lt
        cases p with
        | true =>
          go_wp2_with fail
          go_region_law (first
            | ((go_simp; go_at_call 114; refine (HW.out _ (hTV.below (Below.refl _ _).drew)).mono ?_; rintro e' wy ⟨rfl, hby⟩)
               have hbz : Below wc.heap.size wc wy := below_chain (Below.refl wc.heap.size wc).drew hby (Nat.le_refl _)
               obtain ⟨⟨g0, g1, g2, g3, g4, g5⟩, y0, y1, y2, y3, y4, y5⟩ := (hkr.below hbz hszr).six
               obtain ⟨⟨m0, m1, m2, m3, m4, m5⟩, _⟩ := (hkl.below hbz hszl).six))
          all_goals
            have hS := (hkr.below hbz hszr).store6 (.int .i64 2) (.int .i64 0) (.int .i64 0) (.int .i64 v) (.int .i64 sg) (.bool ob)
            have hbS := below_store6 (hbV.trans (hbz.mono hbV.size)) (Nat.le_refl _) (.int .i64 2) (.int .i64 0) (.int .i64 0) (.int .i64 v) (.int .i64 sg) (.bool ob)
            clear g0 g1 g2 g3 g4 g5 y0 y1 y2 y3 y4 y5 m0 m1 m2 m3 m4 m5 l0 l1 l2 l3 l4 l5 f0 f1 f2 f3 f4 f5 z0 z1 z2 z3 z4 z5
            go_wp2_with fail
            (try simp only [Exit.inBlock, Exit.then])
            exact ret_cellT rfl rfl rfl hS Tryd.underlying46 rfl (by kernel_rfl) rfl ⟨rfl, hbS⟩
        | false =>
          go_wp2_with fail
          go_region
          all_goals
            have hS := (hkr.store6 (.int .i64 2) (.int .i64 0) (.int .i64 0) (.int .i64 v) (.int .i64 sg) (.bool ob)).drew
            have hbS := (below_store6 hbV (Nat.le_refl _) (.int .i64 2) (.int .i64 0) (.int .i64 0) (.int .i64 v) (.int .i64 sg) (.bool ob)).drew
            clear l0 l1 l2 l3 l4 l5 f0 f1 f2 f3 f4 f5 z0 z1 z2 z3 z4 z5
            go_wp2_with fail
            (try simp only [Exit.inBlock, Exit.then])
            exact ret_cellT rfl rfl rfl hS Tryd.underlying46 rfl (by kernel_rfl) rfl ⟨rfl, hbS⟩
end

section
open Go.RowKit
def errP (K : Int) (L : List Lt) : Int × List Lt × Int := if checkE K L = 0 then (K, L, 0) else (0, [], checkE K L)
def resP (k : Int) : Option (List Lt) → Int × List Lt × Int
  | none => (0, [], 6)
  | some L => errP k L
/-- What the program's Parse gives. -/
def parseR (s : List UInt8) : Int × List Lt × Int :=
  if 8000 < s.length then (0, [], 7) else match parseF s with
    | none => (0, [], 6)
    | some x => errP x.1 x.2
def ParseP (w : World) (x : Int × List Lt × Int) (e : Ending) (w' : World) : Prop :=
  ∃ (A : Option Addr) (n c : Nat), e = .returned (.tuple #[.agg #[.int .i64 x.1, .slice A n c], .int .i64 x.2.2]) ∧ OwnL w' w.heap.size A n c x.2.1 ∧ Below w.heap.size w w'
theorem parseR_ok {s : List UInt8} {k : Int} {r : List UInt8} (h : ¬8000 < s.length) (hc : Lib.cut s [58] = ((Lib.cut s [58]).1, r, true)) (hn : numF (Lib.cut s [58]).1 = (k, true)) : parseR s = resP k (loopF (r.length + 1) r []) := by
  unfold parseR parseF
  have h1 : (Lib.cut s [58]).2.2 = true := by rw [hc]
  have h2 : (Lib.cut s [58]).2.1 = r := by rw [hc]
  rw [if_neg h, h1, h2, hn]
  simp only [and_self, if_true]
  cases loopF (r.length + 1) r [] <;> rfl
theorem parseR_bad {s : List UInt8} (h : ¬8000 < s.length) (hc : ¬((Lib.cut s [58]).2.2 = true ∧ (numF (Lib.cut s [58]).1).2 = true)) : parseR s = (0, [], 6) := by
  unfold parseR parseF
  rw [if_neg h, if_neg hc]
theorem buildLone (x : Lt) (w : World) : (Instr.buildSlice 22 1 #[(0, .agg #[.int .i64 x.kind, .int .i64 x.gate, .int .i64 x.rank, .int .i64 x.id, .int .i64 x.sign, .bool x.over])]).run Tryd.prog w = .ok (.slice (some ⟨w.heap.size, 0, none⟩) 1 1) (w.alloc (.cells #[.int .i64 x.kind, .int .i64 x.gate, .int .i64 x.rank, .int .i64 x.id, .int .i64 x.sign, .bool x.over] 46)) := by
  obtain ⟨i0, hi, hz0, hz1, hz2⟩ := info_parts ltInfo
  refine run_buildSlice w _ _ 1 _ _ i0 _ Tryd.underlying22 hi hz0 (by rw [hz1]; omega) (by rw [hz1]; omega) ?_
  rw [hz1]
  kernel_rfl
theorem lets_one (x : Lt) (hx : LtOk x) (w : World) : Lets (w.alloc (.cells #[.int .i64 x.kind, .int .i64 x.gate, .int .i64 x.rank, .int .i64 x.id, .int .i64 x.sign, .bool x.over] 46)) (some ⟨w.heap.size, 0, none⟩) 1 [x] := by
  have h : Blk (w.alloc (.cells #[.int .i64 x.kind, .int .i64 x.gate, .int .i64 x.rank, .int .i64 x.id, .int .i64 x.sign, .bool x.over] 46)) w.heap.size 46 ([x].flatMap ltC).toArray := Blk.new _ _ _
  exact (OwnL.block (base := 0) h (Nat.zero_le _) (fun y hy => by simp at hy; subst hy; exact hx) (by simp)).lets
theorem idx_any (t : List UInt8) (w : World) : Calls Tryd.prog 118 #[.string (bA t), .int .u8 32] w fun e w' => e = .returned (.int .i64 (Lib.indexByte t 32)) ∧ w' = w := by
  have h := Tryd.strings_IndexByte (bA t) 32 w
  rw [bA_list] at h
  exact h
theorem build_codeZ (w : World) : (Instr.build 24 #[]).run Tryd.prog w = .ok (.agg #[.int .i64 0, .slice none 0 0]) w := build_code0 w
theorem Blk.two {w : World} {g : Nat} {t : TypeId} {v0 v1 : Value} (h : Blk w g t #[v0, v1]) : w.cell? ⟨g, 0, none⟩ = some v0 ∧ w.cell? ⟨g, 1, none⟩ = some v1 ∧ w.frozen? ⟨g, 0, none⟩ = false ∧ w.frozen? ⟨g, 1, none⟩ = false := ⟨(h.cell 0).trans rfl, (h.cell 1).trans rfl, h.frozen 0, h.frozen 1⟩
theorem Blk.store2 {w : World} {g : Nat} {t : TypeId} {v0 v1 : Value} (h : Blk w g t #[v0, v1]) (u0 u1 : Value) : Blk ((w.setCell ⟨g, 0, none⟩ u0).setCell ⟨g, 1, none⟩ u1) g t #[u0, u1] := (h.set_ 0 _).set_ 1 _
theorem below_store2 {a w : World} {g B : Nat} (h : Below B a w) (hB : B ≤ g) (u0 u1 : Value) : Below B a ((w.setCell ⟨g, 0, none⟩ u0).setCell ⟨g, 1, none⟩ u1) := (h.setCell (p := ⟨g, 0, none⟩) hB _).setCell (p := ⟨g, 1, none⟩) hB _
def strN : Value → Nat
  | .string s => s.size
  | _ => 0
theorem loop_nil {f : Nat} {A : List Lt} : loopF (f + 1) [] A = some A := rfl
theorem loop_no {f : Nat} {b : UInt8} {t : List UInt8} {A : List Lt} (h : b ≠ 32) : loopF (f + 1) (b :: t) A = none := by simp only [loopF]; rw [if_neg h]
theorem loop_bad {f : Nat} {t : List UInt8} {A : List Lt} (h : (letF (wordF t).1).2 = false) : loopF (f + 1) (32 :: t) A = none := by simp only [loopF]; rw [if_pos trivial, if_neg (by rw [h]; simp)]
theorem loop_go {t : List UInt8} {A : List Lt} (h : (letF (wordF t).1).2 = true) : loopF ((32 :: t).length + 1) (32 :: t) A = loopF ((wordF t).2.length + 1) (wordF t).2 (A ++ [(letF (wordF t).1).1]) := by
  have hl := (wordF_le t).1
  conv => lhs; simp only [loopF]
  rw [if_pos trivial, if_pos h]
  exact loopF_more (by simp; omega) (by omega)
set_option maxRecDepth 100000 in
set_option maxHeartbeats 12800000 in
theorem code_ParseA (s : List UInt8) (w : World) (ht : Tabs w) :
    Calls Tryd.prog 75 #[.string (bA s)] w (ParseP w (parseR s)) := by
  have hb0 : Below w.heap.size w (w.alloc (.cells #[.int .i64 0, .slice none 0 0] 24)) := (Below.refl _ _).alloc (Nat.le_refl _) _
  have hk0 : Blk (w.alloc (.cells #[.int .i64 0, .slice none 0 0] 24)) w.heap.size 24 #[.int .i64 0, .slice none 0 0] := Blk.new _ _ _
  have hbz := build_codeZ
  have hsl : (bA s).size = s.length := bA_size s
  have hsz0 := hk0.lt
  have hTX := ht.below hb0
  by_cases hlong : 8000 < s.length
  · have i0 : decide ((s.length : Int) > 8000) = true := by simp; omega
    have i0' : (8000 : Int) < (s.length : Int) := by omega
    have hr : parseR s = (0, [], 7) := by unfold parseR; rw [if_pos hlong]
    rw [hr]
    clear hr hlong
    go_enter Tryd.func75, Tryd.ntmps75
    go_wp2_with fail
    generalize w.alloc (.cells #[.int .i64 0, .slice none 0 0] 24) = X at hb0 hk0 hsz0 hTX ⊢
    obtain ⟨f0, f1, z0, z1⟩ := hk0.two
    go_wp2_with fail
    (try simp only [Exit.inBlock, Exit.then])
    exact ret_cellT rfl rfl rfl hk0 Tryd.underlying24 rfl (by kernel_rfl) rfl ⟨none, 0, 0, rfl, OwnL.nil _ _, hb0⟩
  · have i0 : decide ((s.length : Int) > 8000) = false := by simp; omega
    have i0' : ¬ (8000 : Int) < (s.length : Int) := by omega
    have hcut := cut_any s 58 (by omega)
    rw [show bA [58] = ⟨#[58]⟩ from rfl] at hcut
    have hle := cut_le s 58
    obtain ⟨hd, hhd⟩ : ∃ a, a = (Lib.cut s [58]).1 := ⟨_, rfl⟩
    obtain ⟨r0, hr0⟩ : ∃ b, b = (Lib.cut s [58]).2.1 := ⟨_, rfl⟩
    obtain ⟨fd, hfd⟩ : ∃ b, b = (Lib.cut s [58]).2.2 := ⟨_, rfl⟩
    rw [← hhd, ← hr0, ← hfd] at hcut
    rw [← hhd, ← hr0] at hle
    have hnum := code_number hd (by omega)
    obtain ⟨k, ok, hko⟩ : ∃ k ok, numF hd = (k, ok) := ⟨_, _, rfl⟩
    have hkb : I64 k := by have := numF_bounds hd; rw [hko] at this; exact this
    rw [hko] at hnum
    simp only [] at hnum
    have HC := Lib.hid hcut
    have HN := Lib.hid hnum
    have HK := Lib.hid hkb
    have hr8 : r0.length ≤ 8000 := by omega
    by_cases hgood : fd = true ∧ ok = true
    · obtain ⟨rfl, rfl⟩ := hgood
      have hres : parseR s = resP k (loopF (r0.length + 1) r0 []) := by
        refine parseR_ok hlong ?_ (by rw [← hhd, hko])
        rw [hr0, hfd]
      rw [hres]
      generalize hR : loopF (r0.length + 1) r0 [] = R
      have HR := Lib.hid hR
      clear hres hR hhd hr0 hfd hko hcut hnum hkb hle hlong
      go_enter Tryd.func75, Tryd.ntmps75
      go_wp2_with fail
      generalize w.alloc (.cells #[.int .i64 0, .slice none 0 0] 24) = X at hb0 hk0 hsz0 hTX ⊢
      refine (HC.out _ hTX).mono ?_
      rintro e w1 ⟨rfl, hb1⟩
      have hT1 := hTX.below hb1
      go_wp2_with fail
      refine (HN.out _ hT1).mono ?_
      rintro e w2 ⟨rfl, hb2⟩
      have hT2 := hT1.below hb2
      have hb3 := hb1.trans (hb2.mono hb1.size)
      have hk3 := hk0.below hb3 hsz0
      have hb4 := hb0.trans (hb3.mono hb0.size)
      have hbc := build_code1 k
      have hsz3 := hk3.lt
      clear hb1 hb2 hb3 hT1 hk0 hb0 hsz0 hTX
      go_upto_region 8 with fail
      have hkc := Blk.new w2 24 #[.int .i64 k, .slice none 0 0]
      have hkr := hk3.alloc (.cells #[.int .i64 k, .slice none 0 0] 24)
      have hTV := hT2.below ((Below.refl w2.heap.size w2).alloc (Nat.le_refl _) (.cells #[.int .i64 k, .slice none 0 0] 24))
      have hbV := hb4.alloc hb4.size (.cells #[.int .i64 k, .slice none 0 0] 24)
      generalize w2.alloc (.cells #[.int .i64 k, .slice none 0 0] 24) = V at hkc hkr hTV hbV ⊢
      obtain ⟨B, hB⟩ : ∃ B, B = w2.heap.size := ⟨_, rfl⟩
      rw [← hB] at hkc ⊢
      have hwB : w.heap.size < B := by rw [hB]; exact hsz3
      clear hB hk3 hb4 hT2 hsz3
      have hst : Hid (loopF (r0.length + 1) r0 [] = R) := HR
      go_loopw [5, 10, 11, 12, 13] (fun v5 _ _ _ _ wr => ∃ (r : List UInt8) (Lc : List Lt) (A : Option Addr) (q cc : Nat), v5 = .string (bA r) ∧ q + r.length ≤ 8000 ∧ Blk wr w.heap.size 24 #[.int .i64 0, .slice none 0 0] ∧ Blk wr B 24 #[.int .i64 k, .slice A q cc] ∧ OwnL wr (B + 1) A q cc Lc ∧ Below w.heap.size w wr ∧ Hid (loopF (r.length + 1) r Lc = R)) (fun v5 _ _ _ _ _ => strN v5)
      case atStart => exact ⟨r0, [], none, 0, 0, rfl, by omega, hkr, hkc, OwnL.nil _ _, hbV, hst⟩
      case round =>
        obtain ⟨r, Lc, A, q, cc, rfl, hq8, hkR, hkC, hown, hbr, HE⟩ := hrel
        clear hkc hkr hTV hbV hst
        have hTr := ht.below hbr
        have hszR := hkR.lt
        have hszC := hkC.lt
        cases r with
        | nil =>
          have hRe : R = some Lc := by rw [← HE.out]; rfl
          have n0 : (bA []).toList.isEmpty = true := by rw [bA_toList]; rfl
          have hLets := hown.lets
          obtain ⟨c0, c1, _, _⟩ := hkC.two
          have HRE := Lib.hid hRe
          clear hRe HE
          go_wp2_with fail
          refine (code_Check k A q cc Lc _ hLets).mono ?_
          rintro e w5 ⟨rfl, hb5⟩
          have hkR5 := hkR.below hb5 hszR
          have hkC5 := hkC.below hb5 hszC
          have hown5 := hown.next hb5
          have hb6 := hbr.trans (hb5.mono hbr.size)
          clear hkR hkC hb5 hLets c0 c1 hown
          by_cases hE : checkE k Lc = 0
          · have HRf := Lib.hid (show resP k R = (k, Lc, 0) by rw [HRE.out]; show errP k Lc = _; unfold errP; rw [if_pos hE])
            have q0 : (checkE k Lc != 0) = false := by simpa using hE
            obtain ⟨d0, d1, _, _⟩ := hkC5.two
            obtain ⟨f0, f1, z0, z1⟩ := hkR5.two
            have hS := hkR5.store2 (.int .i64 k) (.slice A q cc)
            have hbS := below_store2 hb6 (Nat.le_refl _) (.int .i64 k) (.slice A q cc)
            have hO := (hown5.row.kept (only_setCell (only_setCell (World.grownBy.refl w5 (some w.heap.size)) (p := ⟨w.heap.size, 0, none⟩) (.inl rfl) (.int .i64 k)) (p := ⟨w.heap.size, 1, none⟩) (.inl rfl) (.slice A q cc)) (by
              cases hb : blk A with
              | none => exact .inl rfl
              | some x => exact .inr (by have := (hown5.row.lt x hb).1; simp; omega)))
            have hP : ParseP w (resP k R) (.returned (.tuple #[.agg #[.int .i64 k, .slice A q cc], .int .i64 0])) ((w5.setCell ⟨w.heap.size, 0, none⟩ (.int .i64 k)).setCell ⟨w.heap.size, 1, none⟩ (.slice A q cc)) := by
              rw [HRf.out]
              exact ⟨A, q, cc, rfl, ⟨hO.mono (by omega), hown5.fits, hown5.le⟩, hbS⟩
            clear hE
            go_wp2_with fail
            (try simp only [Exit.inBlock, Exit.then])
            exact ret_cellT rfl rfl rfl hS Tryd.underlying24 rfl (by kernel_rfl) rfl hP
          · have HRf := Lib.hid (show resP k R = (0, [], checkE k Lc) by rw [HRE.out]; show errP k Lc = _; unfold errP; rw [if_neg hE])
            have hP : ParseP w (resP k R) (.returned (.tuple #[.agg #[.int .i64 0, .slice none 0 0], .int .i64 (checkE k Lc)])) ((w5.setCell ⟨w.heap.size, 0, none⟩ (.int .i64 0)).setCell ⟨w.heap.size, 1, none⟩ (.slice none 0 0)) := by
              rw [HRf.out]
              exact ⟨none, 0, 0, rfl, OwnL.nil _ _, below_store2 hb6 (Nat.le_refl _) _ _⟩
            have q0 : (checkE k Lc != 0) = true := by simpa using hE
            obtain ⟨f0, f1, z0, z1⟩ := hkR5.two
            clear hE
            go_wp2_with fail
            (try simp only [Exit.inBlock, Exit.then])
            exact ret_cellT rfl rfl rfl (hkR5.store2 (.int .i64 0) (.slice none 0 0)) Tryd.underlying24 rfl (by kernel_rfl) rfl hP
        | cons b t =>
          have hRl : Hid ((b :: t).length = t.length + 1) := rfl
          have n0 : (bA (b :: t)).toList.isEmpty = false := by rw [bA_toList]; rfl
          have hz : (bA (b :: t)).size = t.length + 1 := bA_size _
          have hx : (bA (b :: t)).extract 1 (t.length + 1) = bA t := by have := ex_drop (b :: t) 1; simpa using this
          have h0 : 0 < (bA (b :: t)).size := by omega
          have hget : ((bA (b :: t))[0]'h0) = b := rfl
          by_cases hb32 : b = 32
          · subst hb32
            have E0 : ((((bA (32 :: t))[0]'h0).toNat : Int) != 32) = false := by rw [hget]; rfl
            have hti := Lib.hid (idx_any t)
            obtain ⟨x, hxi⟩ : ∃ x, x = Lib.indexByte t 32 := ⟨_, rfl⟩
            rw [← hxi] at hti
            obtain ⟨wd, hwd⟩ : ∃ wd, wd = (wordF t).1 := ⟨_, rfl⟩
            obtain ⟨rs, hrs⟩ : ∃ rs, rs = (wordF t).2 := ⟨_, rfl⟩
            have hwl := wordF_le t
            rw [← hwd, ← hrs] at hwl
            have htl : q + t.length + 1 ≤ 8000 := by have h := hq8; rw [List.length_cons] at h; omega
            have hzt : (bA t).size = t.length := bA_size t
            have HXI := Lib.hid hxi
            have HWD := Lib.hid hwd
            have HRS := Lib.hid hrs
            clear hget hxi hwd hrs
            go_wp2_with fail
            refine (hti.out _).mono ?_
            rintro e w5 ⟨rfl, rfl⟩
            go_upto_if 50 with fail
            go_cut [5, 10] (fun v5 v10 wz => v5 = .string (bA rs) ∧ v10 = .string (bA wd) ∧ Below w5.heap.size w5 wz)
            case first =>
              have hxi := HXI.out
              have hwd := HWD.out
              have hrs := HRS.out
              clear HXI HWD HRS
              by_cases hxp : 0 ≤ x
              · obtain ⟨o, rfl⟩ : ∃ o : Nat, x = o := ⟨x.toNat, by omega⟩
                have g1 : decide ((o : Int) ≥ 0) = true := by simp
                have g2 : (o : Int) ≤ (t.length : Int) := by
                  have := idx_parts (l := t) (c := 32) (by rw [← hxi]; exact hxp)
                  rw [← hxi] at this
                  simp at this
                  omega
                have hw1 : wd = t.take o := by rw [hwd]; unfold wordF; rw [← hxi, if_pos hxp]; simp
                have hw2 : rs = t.drop o := by rw [hrs]; unfold wordF; rw [← hxi, if_pos hxp]; simp
                have hx1 : (bA t).extract 0 o = bA wd := by rw [hw1]; exact ex_take t o
                have hx2 : (bA t).extract o t.length = bA rs := by rw [hw2]; exact ex_drop t o
                clear hw1 hw2 hwd hrs hxi hwl
                have g3 : (0 : Int) ≤ (o : Int) := by omega
                go_wp2_with fail
                go_region
                all_goals
                  go_wp2_with fail
                  go_meet
                  case rel => (first | exact ⟨rfl, rfl, Below.refl _ _⟩ | exact ⟨rfl, rfl, (Below.refl _ _).drew⟩ | exact ⟨rfl, rfl, below_drewN (Below.refl _ _) _⟩)
              · have g1 : decide (x ≥ 0) = false := by simpa using hxp
                have hw1 : wd = t := by rw [hwd]; unfold wordF; rw [← hxi, if_neg hxp]
                have hw2 : rs = [] := by rw [hrs]; unfold wordF; rw [← hxi, if_neg hxp]
                have HW1 := Lib.hid hw1
                have HW2 := Lib.hid hw2
                clear hw1 hw2 hwd hrs hxi
                go_wp2_with fail
                go_meet
                case rel => exact ⟨by rw [HW2.out]; rfl, by rw [HW1.out], Below.refl _ _⟩
            case rest =>
              obtain ⟨rfl, rfl, hbz2⟩ := hcut
              have hbc := hbr.trans (hbz2.mono hbr.size)
              have hTc := ht.below hbc
              have hkRc := hkR.below hbz2 hszR
              have hkCc := hkC.below hbz2 hszC
              have hownc := hown.next hbz2
              have hszc := hbz2.size
              have hlet := code_letterA wd (by omega)
              have hlok := letF_ok wd
              obtain ⟨l, ok2, hlo⟩ : ∃ l ok2, letF wd = (l, ok2) := ⟨_, _, rfl⟩
              rw [hlo] at hlet hlok
              simp only [] at hlet hlok
              have HLT := Lib.hid hlet
              have HLO := Lib.hid hlok
              have hlw : letF (wordF t).1 = (l, ok2) := by rw [← HWD.out]; exact hlo
              clear hlet hlok hlo hkR hkC hown hbz2 hbr hTr
              go_wp2_with fail
              refine (HLT.out _ hTc).mono ?_
              rintro e w6 ⟨rfl, hb6⟩
              have hkR6 := hkRc.below hb6 (by omega)
              have hkC6 := hkCc.below hb6 (by omega)
              have hown6 := hownc.next hb6
              have hb7 := hbc.trans (hb6.mono hbc.size)
              have hkRa := hkR6.alloc (.cells #[.int .i64 l.kind, .int .i64 l.gate, .int .i64 l.rank, .int .i64 l.id, .int .i64 l.sign, .bool l.over] 46)
              have hkCa := hkC6.alloc (.cells #[.int .i64 l.kind, .int .i64 l.gate, .int .i64 l.rank, .int .i64 l.id, .int .i64 l.sign, .bool l.over] 46)
              have hkLa := Blk.new w6 46 #[.int .i64 l.kind, .int .i64 l.gate, .int .i64 l.rank, .int .i64 l.id, .int .i64 l.sign, .bool l.over]
              have hownA := hown6.alloc (.cells #[.int .i64 l.kind, .int .i64 l.gate, .int .i64 l.rank, .int .i64 l.id, .int .i64 l.sign, .bool l.over] 46)
              have hbA7 := hb7.alloc hb7.size (.cells #[.int .i64 l.kind, .int .i64 l.gate, .int .i64 l.rank, .int .i64 l.id, .int .i64 l.sign, .bool l.over] 46)
              unfold ltV
              go_upto_region 17 with fail
              generalize w6.alloc (.cells #[.int .i64 l.kind, .int .i64 l.gate, .int .i64 l.rank, .int .i64 l.id, .int .i64 l.sign, .bool l.over] 46) = W at hkRa hkCa hkLa hownA hbA7 ⊢
              clear hkRc hkCc hownc hbc hTc hb6 hkR6 hkC6 hown6 hb7
              cases ok2 with
              | false =>
                have hRe : R = none := by rw [← HE.out]; exact loop_bad (by rw [hlw])
                have hP : ParseP w (resP k R) (.returned (.tuple #[.agg #[.int .i64 0, .slice none 0 0], .int .i64 6])) ((W.setCell ⟨w.heap.size, 0, none⟩ (.int .i64 0)).setCell ⟨w.heap.size, 1, none⟩ (.slice none 0 0)) := by
                  rw [hRe]
                  exact ⟨none, 0, 0, rfl, OwnL.nil _ _, below_store2 hbA7 (Nat.le_refl _) _ _⟩
                obtain ⟨f0, f1, z0, z1⟩ := hkRa.two
                clear hRe HE hlw
                go_wp2_with fail
                (try simp only [Exit.inBlock, Exit.then])
                exact ret_cellT rfl rfl rfl (hkRa.store2 (.int .i64 0) (.slice none 0 0)) Tryd.underlying24 rfl (by kernel_rfl) rfl hP
              | true =>
                have hE1 := HE.out
                rw [loop_go (by rw [hlw]), hlw] at hE1
                have HE1 := Lib.hid (show loopF (rs.length + 1) rs (Lc ++ [l]) = R by rw [HRS.out]; exact hE1)
                obtain ⟨⟨l0, l1, l2, l3, l4, l5⟩, _⟩ := hkLa.six
                obtain ⟨f0, f1, z0, z1⟩ := hkCa.two
                have hszW := hkCa.lt
                have hwW := hkRa.lt
                have hbl := buildLone l
                have hM := lets_one l HLO.out W
                clear hE1 HE hlw
                go_wp2_with (at_builtin; refine pushLs rfl _ _ rfl (hownA.alloc _) hM rfl rfl (q + 1) rfl (by omega) (by simp; omega) ?_; intro A' c' w7 hown7 hg7 hl7; have hkC7 := (hkCa.alloc (.cells #[.int .i64 l.kind, .int .i64 l.gate, .int .i64 l.rank, .int .i64 l.id, .int .i64 l.sign, .bool l.over] 46)).grown hg7 (fun e => by have := (hownA.row.lt _ e.symm).1; omega); have y1 : w7.cell? ⟨B, 1, none⟩ = some (.slice A q cc) := (hkC7.cell 1).trans rfl; have y2 := hkC7.frozen 1)
                have hkR7 := ((hkRa.alloc (.cells #[.int .i64 l.kind, .int .i64 l.gate, .int .i64 l.rank, .int .i64 l.id, .int .i64 l.sign, .bool l.over] 46)).grown hg7 (fun e => by have := (hownA.row.lt _ e.symm).1; omega)).far (p := ⟨B, 1, none⟩) (by simp; omega) (.slice A' (q + 1) c')
                have hkC8 := hkC7.set_ 1 (.slice A' (q + 1) c')
                have hown8 : OwnL (w7.setCell ⟨B, 1, none⟩ (.slice A' (q + 1) c')) (B + 1) A' (q + 1) c' (Lc ++ [l]) := ⟨hown7.row.kept (only_setCell (World.grownBy.refl w7 (some B)) (p := ⟨B, 1, none⟩) (.inl rfl) (.slice A' (q + 1) c')) (by
                  cases hb : blk A' with
                  | none => exact .inl rfl
                  | some x => exact .inr (by have := (hown7.row.lt x hb).1; simp; omega)), hown7.fits, hown7.le⟩
                have hb8 : Below w.heap.size w (w7.setCell ⟨B, 1, none⟩ (.slice A' (q + 1) c')) := by
                  have h1 := hbA7.alloc hbA7.size (.cells #[.int .i64 l.kind, .int .i64 l.gate, .int .i64 l.rank, .int .i64 l.id, .int .i64 l.sign, .bool l.over] 46)
                  have h2 : Below w.heap.size _ w7 := (Below.refl _ _).grown hg7 h1.size (fun x hx => by have := (hownA.row.lt x hx).1; omega)
                  exact (h1.trans h2).setCell (p := ⟨B, 1, none⟩) (by simp; omega) _
                have hzr : (bA rs).size = rs.length := bA_size rs
                have hzt2 : (bA (32 :: t)).size = t.length + 1 := bA_size _
                clear hkCa hkRa hkLa hownA hbA7 hg7 hl7 hown7 hkC7 f0 f1 z0 z1 l0 l1 l2 l3 l4 l5
                go_wp2_with fail
                go_roundw
                case rel => exact ⟨rs, Lc ++ [l], A', q + 1, c', rfl, by omega, hkR7, hkC8, hown8, hb8, HE1⟩
                case measure => simp only [strN]; omega
          · have E0 : ((((bA (b :: t))[0]'h0).toNat : Int) != 32) = true := by
              rw [hget]
              simp only [bne_iff_ne, ne_eq]
              intro h
              exact hb32 (UInt8.toNat_inj.1 (by have : (32 : UInt8).toNat = 32 := rfl; omega))
            have hRe : R = none := by rw [← HE.out]; exact loop_no hb32
            have hP : ParseP w (resP k R) (.returned (.tuple #[.agg #[.int .i64 0, .slice none 0 0], .int .i64 6])) ((wr.setCell ⟨w.heap.size, 0, none⟩ (.int .i64 0)).setCell ⟨w.heap.size, 1, none⟩ (.slice none 0 0)) := by
              rw [hRe]
              exact ⟨none, 0, 0, rfl, OwnL.nil _ _, below_store2 hbr (Nat.le_refl _) _ _⟩
            obtain ⟨f0, f1, z0, z1⟩ := hkR.two
            clear hRe HE hget hb32 hx hkC hown
            go_wp2_with fail
            (try simp only [Exit.inBlock, Exit.then])
            exact ret_cellT rfl rfl rfl (hkR.store2 (.int .i64 0) (.slice none 0 0)) Tryd.underlying24 rfl (by kernel_rfl) rfl hP
    · have hres : parseR s = (0, [], 6) := parseR_bad hlong (by rw [← hhd, ← hfd, hko]; exact hgood)
      rw [hres]
      clear hres hhd hr0 hfd hko hcut hnum hkb hle hlong
      cases fd <;> cases ok
      case true.true => exact absurd ⟨rfl, rfl⟩ hgood
      all_goals
        clear hgood
        go_enter Tryd.func75, Tryd.ntmps75
        go_wp2_with fail
        generalize w.alloc (.cells #[.int .i64 0, .slice none 0 0] 24) = X at hb0 hk0 hsz0 hTX ⊢
        refine (HC.out _ hTX).mono ?_
        rintro e w1 ⟨rfl, hb1⟩
        have hT1 := hTX.below hb1
        go_wp2_with fail
        refine (HN.out _ hT1).mono ?_
        rintro e w2 ⟨rfl, hb2⟩
        have hb3 := hb1.trans (hb2.mono hb1.size)
        have hk3 := hk0.below hb3 hsz0
        have hb4 := hb0.trans (hb3.mono hb0.size)
        obtain ⟨f0, f1, z0, z1⟩ := hk3.two
        clear hb1 hb2 hb3 hT1 hk0 hb0
        go_wp2_with fail
        (try simp only [Exit.inBlock, Exit.then])
        exact ret_cellT rfl rfl rfl (hk3.store2 (.int .i64 0) (.slice none 0 0)) Tryd.underlying24 rfl (by kernel_rfl) rfl ⟨none, 0, 0, rfl, OwnL.nil _ _, below_store2 hb4 (Nat.le_refl _) (.int .i64 0) (.slice none 0 0)⟩
end
end Go.Proofs.YtkjcmppaapbabaaDoor
