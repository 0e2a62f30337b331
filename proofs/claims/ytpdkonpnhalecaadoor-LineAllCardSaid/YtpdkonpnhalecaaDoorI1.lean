/-
  A range over a function, told by sets of blocks: what an iterator promises to its rounds, what a round promises to the iterator; the law of the statement. No program.
-/
import Derived.RangeFuncNested
import Derived.RangeFuncBound
import Derived.RangeFuncLeaves
import Derived.Test.YtpdkonpnhalecaaDoorOwn
namespace Go.Proofs.YtpdkonpnhalecaaDoor
open Go.RowKit
/-- The blocks of S lie as they lay; no block has gone. -/
structure Kept (S : Nat → Prop) (W W' : World) : Prop where
  os : W'.os = W.os
  tape : W'.tape = W.tape
  output : W'.output = W.output
  size : W.heap.size ≤ W'.heap.size
  block : ∀ k, k < W.heap.size → S k → W'.heap[k]? = W.heap[k]?
section
variable {S S' : Nat → Prop} {W W' W'' : World}
theorem Kept.refl (S : Nat → Prop) (W : World) : Kept S W W := ⟨rfl, rfl, rfl, Nat.le_refl _, fun _ _ _ => rfl⟩
theorem Kept.mono (h : Kept S W W') (hS : ∀ k, k < W.heap.size → S' k → S k) : Kept S' W W' := ⟨h.os, h.tape, h.output, h.size, fun k hk hs => h.block k hk (hS k hk hs)⟩
/-- A further step; it keeps at least what is asked of the blocks of the first world. -/
theorem Kept.next (h : Kept S W W') (k : Kept S' W' W'') (h2 : ∀ i, i < W.heap.size → S i → S' i) : Kept S W W'' :=
  ⟨k.os.trans h.os, k.tape.trans h.tape, k.output.trans h.output, Nat.le_trans h.size k.size, fun i hi hs => (k.block i (Nat.lt_of_lt_of_le hi h.size) (h2 i hi hs)).trans (h.block i hi hs)⟩
theorem Kept.trans (h : Kept S W W') (k : Kept S W' W'') : Kept S W W'' := h.next k fun _ _ h => h
theorem Kept.of_below {B : Nat} (h : Below B W W') (hS : ∀ k, k < W.heap.size → S k → k < B) : Kept S W W' := ⟨h.os, h.tape, h.output, h.size, fun k hk hs => h.block k (hS k hk hs)⟩
theorem Kept.below {B : Nat} (h : Kept S W W') (hB : B ≤ W.heap.size) (hS : ∀ k, k < B → S k) : Below B W W' := ⟨h.os, h.tape, h.output, h.size, fun k hk => h.block k (by omega) (hS k hk)⟩
theorem Kept.alloc (S : Nat → Prop) (W : World) (o : Obj) : Kept S W (W.alloc o) := Kept.of_below ((Below.refl W.heap.size W).alloc (Nat.le_refl _) o) fun _k hk _ => hk
theorem Kept.drew (S : Nat → Prop) (W : World) : Kept S W W.drew := Kept.of_below (Below.refl W.heap.size W).drew fun _k hk _ => hk
theorem Kept.putObj (W : World) (l : Nat) (o : Obj) (hS : ∀ k, S k → k ≠ l) : Kept S W (W.putObj l o) :=
  ⟨rfl, rfl, rfl, by simp, fun k _ hs => World.putObj_heap_other (hS k hs)⟩
theorem Kept.setCell (W : World) (a : Addr) (v : Value) (hS : ∀ k, S k → k ≠ a.block) : Kept S W (W.setCell a v) :=
  ⟨rfl, rfl, rfl, by simp [World.setCell], fun k _ hs => Below.heap_setCell _ _ _ _ (hS k hs)⟩
theorem Kept.of_grown {row : Option Nat} (h : W.grownBy W' row) (hS : ∀ k, S k → row ≠ some k) : Kept S W W' :=
  ⟨h.os, h.tape, h.output, h.size, fun k hk hs => h.block k hk fun e => hS k hs e.symm⟩
theorem Kept.heap (h : Kept S W W') {k : Nat} {o : Obj} (ho : W.heap[k]? = some o) (hs : S k) : W'.heap[k]? = some o :=
  (h.block k (Array.getElem?_eq_some_iff.1 ho).1 hs).trans ho
theorem Kept.cell (h : Kept S W W') {p : Addr} {v : Value} (hc : W.cell? p = some v) (hs : S p.block) : W'.cell? p = some v :=
  (World.cell?_of_block (w := W) (w' := W') (h.block p.block (World.block_lt_of_cell? W _ hc) hs)).trans hc
/-- A slice of the call's own lies on where its block is kept. -/
theorem Own.keptU {base : Nat} {A : Option Addr} {n c : Nat} {L : List Int} (h : Own W base A n c L) (hk : Kept S W W') (hs : ∀ k, blk A = some k → S k) : Own W' base A n c L := by
  refine ⟨⟨h.row.1, ?_⟩, h.len, h.le, h.fits⟩
  rcases h.row.2 with hn | ⟨g, cap, cur, hv, hb, hg, rest⟩
  · exact .inl hn
  · refine .inr ⟨g, cap, cur, hv, hb, hk.heap hg (hs g ?_), rest⟩
    simp only [Value.slice.injEq] at hv
    rw [hv.1]; rfl
theorem Own.ints0 {base : Nat} {A : Option Addr} {n c : Nat} {L : List Int} (h : Own W base A n c L) : Own W 0 A n c L := h.mono (Nat.zero_le _)
end
section
variable {P : Program}
/-- What holds between the rounds speaks of the blocks of U alone. -/
def Stable {β : Type} (U : Nat → Prop) (J : β → World → Prop) : Prop := ∀ s W W', J s W → Kept U W W' → J s W'
theorem Stable.mono {β : Type} {U U' : Nat → Prop} {J : β → World → Prop} (h : Stable U J) (hU : ∀ k, U k → U' k) : Stable U' J := fun s W W' hs hk => h s W W' hs (hk.mono fun k _ => hU k)
/-- The rounds: each takes a slice that reads as the next word; it keeps what is not in U (but for the slice's own block, where that is handed over). -/
def Rounds (P : Program) (l : Nat) (U : Nat → Prop) (hand : Bool) (T : List (List Int)) (J Jx : List (List Int) → World → Prop) : Prop :=
  ∀ pre A n c L W, J pre W → Own W 0 A n c L → (∀ k, blk A = some k → ¬U k) → (pre ++ [L]) <+: T →
    YieldAt Fence.wide 0 P l #[.slice A n c] W fun e W' =>
      ((e = .returned (.bool true) ∧ J (pre ++ [L]) W') ∨ (e = .returned (.bool false) ∧ Jx (pre ++ [L]) W')) ∧ Kept (fun k => ¬U k ∧ (hand = true → blk A ≠ some k)) W W'
/-- The iterator: it gives the words T in order. -/
def Seq (P : Program) (g : Nat) (lb : Array Value) (hand : Bool) (T : List (List Int)) (ok : World → Prop) (away : (Nat → Prop) → Prop) (ex : Nat → Prop) (fin : World → Prop) : Prop :=
  ∀ (l : Nat) (U : Nat → Prop) (J Jx : List (List Int) → World → Prop) (W : World), ok W → (∀ k, U k → k < W.heap.size) → away U → Stable U J → Stable U Jx → Rounds P l U hand T J Jx → J [] W →
    CallsIn Fence.wide 0 P g (#[.func (.yield l) #[] #[]] ++ lb) W fun e W' =>
      (∃ v, e = .returned v) ∧ (J T W' ∨ ∃ q, q <+: T ∧ Jx q W') ∧ Kept (fun k => ¬U k ∧ ex k) W W' ∧ fin W'
/-- How the body of a round may be left. -/
def bPost (U : Nat → Prop) (hand : Bool) (bA : Option Nat) (I : List (List Int) → World → Prop) (Ix : Code → List (List Int) → World → Prop) (xs : List (List Int)) (W : World) : Exit → Act → World → Prop
  | .normal, _, W' => Kept (fun k => ¬U k ∧ (hand = true → bA ≠ some k)) W W' ∧ I xs W'
  | .ret, _, W' => Kept (fun k => ¬U k ∧ (hand = true → bA ≠ some k)) W W' ∧ Ix .ret xs W'
  | .exit id, _, W' => Kept (fun k => ¬U k ∧ (hand = true → bA ≠ some k)) W W' ∧ Ix (.exit id) xs W'
  | .goto t, _, W' => Kept (fun k => ¬U k ∧ (hand = true → bA ≠ some k)) W W' ∧ Ix (.goto t) xs W'
  | .panic _, _, _ => False
  | .outgrown, _, _ => False
theorem YieldAt.inRound {m : Nat} {l l' : Nat} {args : Array Value} {W : World} {R : Ending → World → Prop} (h : YieldAt Fence.wide m P l args W R) : YieldAt (Fence.wide.inRound l') m P l args W R := h
/-- The law of the statement, outside of a round. -/
theorem wp_range {g : Operand} {p : Tmp} {assign body : Code} {Q : Exit → Act → World → Prop} {a : Act} {w : World} {gf : Nat} {lb : Array Value}
    (hg : a.eval g = .func (.func gf) #[] lb) (eg : ∀ args w, (callFunc gf args).run P w = .ok (.enter gf args) w)
    {hand : Bool} {T : List (List Int)} {ok : World → Prop} {away : (Nat → Prop) → Prop} {ex : Nat → Prop} {fin : World → Prop} (hseq : Seq P gf lb hand T ok away ex fin)
    (U : Nat → Prop) (hU : ∀ k, U k → k < w.heap.size) (hok : ∀ W, Below w.heap.size w W → ok W) (haway : away (fun k => U k ∨ k = w.heap.size ∨ k = w.heap.size + 1))
    (I : List (List Int) → World → Prop) (Ix : Code → List (List Int) → World → Prop) (hI : Stable U I) (hIx : ∀ c, Stable U (Ix c)) (h0 : I [] w)
    (hfin : ∀ W l r o, fin W → W.heap[l]? = some (.loop r) → fin (W.putObj l o))
    (hround : ∀ (l : Nat) (pre : List (List Int)) (A : Option Addr) (n c : Nat) (L : List Int) (W : World), w.heap.size ≤ l → (∀ k, blk A = some k → ¬U k) → (pre ++ [L]) <+: T →
      assign.wpIn (Fence.wide.inRound l) 0 P (Exit.then (fun a₁ W1 => W1 = W ∧ ∀ W2, w.heap.size ≤ W2.heap.size → I pre W2 → Own W2 0 A n c L →
        body.wpIn (Fence.wide.inRound l) 0 P (bPost U hand (blk A) I Ix (pre ++ [L]) W2) a₁ W2) (fun _ _ _ => False)) { tmps := a.tmps.setIfInBounds p (.slice A n c), defers := [] } W)
    (hdone : ∀ W, I T W → Kept (fun k => ¬U k ∧ ex k) w W → fin W → W.heap[w.heap.size]? = some (.deferred (some [])) → Q .normal { a with defers := { target := .collected w.heap.size, args := #[] } :: a.defers } W)
    (hstop : ∀ (c : Code) (q : List (List Int)) (W : World), q <+: T → Ix c q W → Kept (fun k => ¬U k ∧ ex k) w W → fin W → W.heap[w.heap.size]? = some (.deferred (some [])) →
      c.wpIn Fence.wide 0 P Q { a with defers := { target := .collected w.heap.size, args := #[] } :: a.defers } W) :
    (Code.rangeFunc g #[p] assign body).wpIn Fence.wide 0 P Q a w := by
  refine wpIn_rangeFunc ?_
  intro fn _
  obtain ⟨rec, hrec⟩ : ∃ rec : LoopState → Option Code → Loop, rec = fun st pe => { state := st, pending := pe, fn, tmps := a.tmps, params := #[p], assign, body, defers := w.heap.size } := ⟨_, rfl⟩
  obtain ⟨W1, hW1⟩ : ∃ W1, (w.alloc (.deferred (some []))).alloc (.loop (rec .ready none)) = W1 := ⟨_, rfl⟩
  have hL1 : W1.heap[w.heap.size + 1]? = some (.loop (rec .ready none)) := by
    rw [← hW1]; have := World.alloc_heap_new (w.alloc (.deferred (some []))) (.loop (rec .ready none)); rwa [World.size_alloc] at this
  have hK1 : W1.heap[w.heap.size]? = some (.deferred (some [])) := by
    rw [← hW1]; exact (Below.heap_alloc _ _ _ (by simp)).trans (World.alloc_heap_new w _)
  have hb1 : Below w.heap.size w W1 := by rw [← hW1]; exact ((Below.refl _ w).alloc (Nat.le_refl _) _).alloc (by simp) _
  have hz1 : W1.heap.size = w.heap.size + 2 := by rw [← hW1]; simp
  have hI1 : I [] W1 := hI _ _ _ h0 (Kept.of_below hb1 fun k hk _ => hk)
  refine ⟨w.heap.size + 1, [{ target := .collected w.heap.size, args := #[] }], W1, { target := .fn (.func gf) lb, args := #[.func (.yield (w.heap.size + 1)) #[] #[]] }, W1, gf,
    #[.func (.yield (w.heap.size + 1)) #[] #[]] ++ lb, W1, ?_, ?_, ?_, ?_, fun h => (by cases h), ?_⟩
  · rw [← hW1, hrec]; exact run_enterLoop_outer _ _ _ _ _
  · simp only [resolve, hg]
    simp [go_sem]
  · intro f' _; trivial
  · simp [invoke, go_sem, eg]
  · obtain ⟨V, hV⟩ : ∃ V : Nat → Prop, V = fun k => U k ∨ k = w.heap.size ∨ k = w.heap.size + 1 := ⟨_, rfl⟩
    rw [← hV] at haway
    have hVU : ∀ k, U k → V k := fun k hk => by rw [hV]; exact .inl hk
    have hVl : V (w.heap.size + 1) := by rw [hV]; exact .inr (.inr rfl)
    have hVd : V w.heap.size := by rw [hV]; exact .inr (.inl rfl)
    have hVn : ∀ k, ¬V k → ¬U k ∧ k ≠ w.heap.size + 1 := fun k hk => ⟨fun h => hk (hVU k h), fun e => hk (e ▸ hVl)⟩
    refine (hseq (w.heap.size + 1) V
      (fun pre W => I pre W ∧ W.heap[w.heap.size + 1]? = some (.loop (rec .ready none)) ∧ W.heap[w.heap.size]? = some (.deferred (some [])))
      (fun pre W => ∃ c, Ix c pre W ∧ W.heap[w.heap.size + 1]? = some (.loop (rec .done (some c))) ∧ W.heap[w.heap.size]? = some (.deferred (some [])))
      W1 (hok _ hb1) (fun k hk => by rw [hV] at hk; rw [hz1]; rcases hk with h | h | h <;> first | (have := hU k h; omega) | omega) haway
      (fun s A B hs hk => ⟨(hI.mono hVU) s A B hs.1 hk, hk.heap hs.2.1 hVl, hk.heap hs.2.2 hVd⟩)
      (fun s A B hs hk => by obtain ⟨c, hc, h1, h2⟩ := hs; exact ⟨c, ((hIx c).mono hVU) s A B hc hk, hk.heap h1 hVl, hk.heap h2 hVd⟩)
      ?_ ⟨hI1, hL1, hK1⟩).mono ?_
    · rintro pre A n c L W ⟨hi, hl, hk⟩ hown hAV hpre
      have hAU : ∀ k, blk A = some k → ¬U k := fun k hk h => hAV k hk (hVU k h)
      have hlt : w.heap.size + 1 < W.heap.size := (Array.getElem?_eq_some_iff.1 hl).1
      have hy := run_yield (P := P) (args := #[.slice A n c]) hl (by rw [hrec]; rfl)
      rw [hrec] at hy
      have hz : ((#[p] : Array Tmp).zip #[Value.slice A n c]).foldl (fun tmps x => tmps.setIfInBounds x.1 x.2) a.tmps = a.tmps.setIfInBounds p (.slice A n c) := by simp
      have hy2 : (Instr.yield (w.heap.size + 1) #[.slice A n c]).run P W = .ok (.round (w.heap.size + 1) fn (a.tmps.setIfInBounds p (.slice A n c)) assign body) W := by rw [← hz]; exact hy
      have roundBody : ∀ a₁ : Act, (∀ W2, w.heap.size ≤ W2.heap.size → I pre W2 → Own W2 0 A n c L → body.wpIn (Fence.wide.inRound (w.heap.size + 1)) 0 P (bPost U hand (blk A) I Ix (pre ++ [L]) W2) a₁ W2) →
          body.wpIn (Fence.wide.inRound (w.heap.size + 1)) 0 P (roundPost P (w.heap.size + 1) fun e W' =>
            ((e = .returned (.bool true) ∧ I (pre ++ [L]) W' ∧ W'.heap[w.heap.size + 1]? = some (.loop (rec .ready none)) ∧ W'.heap[w.heap.size]? = some (.deferred (some []))) ∨
              (e = .returned (.bool false) ∧ ∃ c, Ix c (pre ++ [L]) W' ∧ W'.heap[w.heap.size + 1]? = some (.loop (rec .done (some c))) ∧ W'.heap[w.heap.size]? = some (.deferred (some [])))) ∧
            Kept (fun k => ¬V k ∧ (hand = true → blk A ≠ some k)) W W') a₁ (W.putObj (w.heap.size + 1) (.loop { rec .ready none with state := .busy })) := by
        intro a₁ hbody
        have hl2 : (W.putObj (w.heap.size + 1) (.loop { rec .ready none with state := .busy })).heap[w.heap.size + 1]? = some (.loop { rec .ready none with state := .busy }) := World.putObj_heap_same hlt
        have hk2 : (W.putObj (w.heap.size + 1) (.loop { rec .ready none with state := .busy })).heap[w.heap.size]? = some (.deferred (some [])) := (World.putObj_heap_other (by omega)).trans hk
        have kp : Kept (fun k => k ≠ w.heap.size + 1) W (W.putObj (w.heap.size + 1) (.loop { rec .ready none with state := .busy })) := Kept.putObj _ _ _ fun k h => h
        have hown2 := hown.keptU kp (fun k hk e => hAV k hk (e ▸ hVl))
        have hi2 := hI _ _ _ hi (kp.mono fun k _ h e => by have := hU k h; omega)
        have hz2 : w.heap.size ≤ (W.putObj (w.heap.size + 1) (.loop { rec .ready none with state := .busy })).heap.size := by rw [World.putObj_size]; omega
        refine wpIn_mono (hbody _ hz2 hi2 hown2) ?_
        have fin1 : ∀ (jump : Option Code) (W3 : World), Kept (fun k => ¬U k ∧ (hand = true → blk A ≠ some k)) (W.putObj (w.heap.size + 1) (.loop { rec .ready none with state := .busy })) W3 →
            (Instr.endRound (w.heap.size + 1) jump).run P W3 = .ok (.bool jump.isNone) (W3.putObj (w.heap.size + 1) (.loop (rec (if jump.isNone then .ready else .done) jump))) ∧
            (W3.putObj (w.heap.size + 1) (.loop (rec (if jump.isNone then .ready else .done) jump))).heap[w.heap.size + 1]? = some (.loop (rec (if jump.isNone then .ready else .done) jump)) ∧
            (W3.putObj (w.heap.size + 1) (.loop (rec (if jump.isNone then .ready else .done) jump))).heap[w.heap.size]? = some (.deferred (some [])) ∧
            Kept (fun k => k ≠ w.heap.size + 1) W3 (W3.putObj (w.heap.size + 1) (.loop (rec (if jump.isNone then .ready else .done) jump))) ∧
            Kept (fun k => ¬V k ∧ (hand = true → blk A ≠ some k)) W (W3.putObj (w.heap.size + 1) (.loop (rec (if jump.isNone then .ready else .done) jump))) := fun jump W3 hk3 => by
          have hl3 := hk3.heap hl2 ⟨fun h => by have := hU _ h; omega, fun _ e => hAV _ e hVl⟩
          have hd3 := hk3.heap hk2 ⟨fun h => by have := hU _ h; omega, fun _ e => hAV _ e hVd⟩
          have hrun := run_endRound (P := P) jump hl3
          rw [hrec] at hrun ⊢
          refine ⟨hrun, World.putObj_heap_same (Array.getElem?_eq_some_iff.1 hl3).1, (World.putObj_heap_other (by omega)).trans hd3, Kept.putObj _ _ _ fun k h => h, ?_⟩
          have s1 : Kept (fun k => ¬V k ∧ (hand = true → blk A ≠ some k)) W (W.putObj (w.heap.size + 1) (.loop { rec .ready none with state := .busy })) := kp.mono fun k _ h => (hVn k h.1).2
          have s2 := s1.next hk3 (fun k _ h => ⟨(hVn k h.1).1, h.2⟩)
          exact s2.next (Kept.putObj _ _ _ fun k h => h) (fun k _ h => (hVn k h.1).2)
        rintro e a3 W3 hp
        cases e with
        | normal =>
          obtain ⟨hk3, hi3⟩ := hp
          obtain ⟨hr, hl4, hd4, hk4, hk5⟩ := fin1 none W3 hk3
          exact ⟨_, _, hr, .inl ⟨rfl, hI _ _ _ hi3 (hk4.mono fun k _ h e => by have := hU k h; omega), hl4, hd4⟩, hk5⟩
        | ret =>
          obtain ⟨hk3, hi3⟩ := hp
          obtain ⟨hr, hl4, hd4, hk4, hk5⟩ := fin1 (some .ret) W3 hk3
          exact ⟨_, _, hr, .inr ⟨rfl, .ret, hIx _ _ _ _ hi3 (hk4.mono fun k _ h e => by have := hU k h; omega), hl4, hd4⟩, hk5⟩
        | exit id =>
          obtain ⟨hk3, hi3⟩ := hp
          obtain ⟨hr, hl4, hd4, hk4, hk5⟩ := fin1 (some (.exit id)) W3 hk3
          exact ⟨_, _, hr, .inr ⟨rfl, .exit id, hIx _ _ _ _ hi3 (hk4.mono fun k _ h e => by have := hU k h; omega), hl4, hd4⟩, hk5⟩
        | goto t =>
          obtain ⟨hk3, hi3⟩ := hp
          obtain ⟨hr, hl4, hd4, hk4, hk5⟩ := fin1 (some (.goto t)) W3 hk3
          exact ⟨_, _, hr, .inr ⟨rfl, .goto t, hIx _ _ _ _ hi3 (hk4.mono fun k _ h e => by have := hU k h; omega), hl4, hd4⟩, hk5⟩
        | panic ch => exact hp.elim
        | outgrown => exact hp.elim
      refine ⟨fn, _, assign, body, hy2, roundIn_of_wpIn trivial ?_⟩
      refine wpIn_mono (hround _ pre A n c L W (by omega) hAU hpre) ?_
      rintro e0 a₁ W1' hp0
      cases e0 with
      | normal =>
        obtain ⟨rfl, hbody⟩ := hp0
        refine ⟨_, run_beginRound hl (by rw [hrec]), ?_⟩
        revert hbody
        exact roundBody _
      | ret => exact hp0
      | exit id => exact hp0
      | goto t => exact hp0
      | panic ch => exact hp0
      | outgrown => exact hp0
    · have hKw : ∀ W2 o, Kept (fun k => ¬V k ∧ ex k) W1 W2 → Kept (fun k => ¬U k ∧ ex k) w (W2.putObj (w.heap.size + 1) o) := fun W2 o hk => by
        have s1 : Kept (fun k => ¬U k ∧ ex k) w W1 := Kept.of_below hb1 fun k hk _ => hk
        have s2 := s1.next hk (fun k hlt h => ⟨fun hv => by rw [hV] at hv; rcases hv with hv | hv | hv; exact h.1 hv; omega; omega, h.2⟩)
        exact s2.next (Kept.putObj W2 (w.heap.size + 1) o fun k h => h) (fun k hlt _ => by omega)
      rintro e W2 ⟨⟨v, rfl⟩, hJ, hk, hf⟩
      rcases hJ with ⟨hi, hl, hd⟩ | ⟨q, hq, c, hi, hl, hd⟩
      · refine ⟨none, _, by have := run_endLoop (P := P) hl (by rw [hrec]; simp); rw [hrec] at this; exact this, ?_⟩
        exact hdone _ (hI _ _ _ hi (Kept.putObj _ _ _ fun k h e => by have := hU k h; omega)) (hKw _ _ hk) (hfin _ _ _ _ hf hl) ((World.putObj_heap_other (by omega)).trans hd)
      · refine ⟨some c, _, by have := run_endLoop (P := P) hl (by rw [hrec]; simp); rw [hrec] at this; exact this, ?_⟩
        exact hstop c q _ hq (hIx _ _ _ _ hi (Kept.putObj _ _ _ fun k h e => by have := hU k h; omega)) (hKw _ _ hk) (hfin _ _ _ _ hf hl) ((World.putObj_heap_other (by omega)).trans hd)
end
end Go.Proofs.YtpdkonpnhalecaaDoor
