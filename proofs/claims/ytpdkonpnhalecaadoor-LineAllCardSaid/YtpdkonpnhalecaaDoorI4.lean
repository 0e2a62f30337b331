/-
  The program's iterators over words: what begun returns gives the words in order. Conditions: few fingers, short words.
-/
import Derived.Test.YtpdkonpnhalecaaDoorJE
import Derived.Test.YtpdkonpnhalecaaDoorOwnX
import Derived.Deep.RegionHeld3
import Derived.Deep.DeepCutAuto
namespace Go.Proofs.YtpdkonpnhalecaaDoor
open Go.RowKit Go.Shelf
attribute [local go_sem] Oper.semAt_some
def bgnTo (K d : Nat) (L : List Int) (g : Nat) : List (List Int) := (List.range g).flatMap fun (g : Nat) => if skipB L g then [] else bgn K d (L ++ [(g : Int)])
theorem bgnTo_zero (K d : Nat) (L : List Int) : bgnTo K d L 0 = [] := rfl
theorem bgnTo_skip {K d : Nat} {L : List Int} {g : Nat} (h : skipB L g = true) : bgnTo K d L (g + 1) = bgnTo K d L g := by
  unfold bgnTo
  rw [List.range_succ, List.flatMap_append]
  simp [h]
theorem bgnTo_more {K d : Nat} {L : List Int} {g : Nat} (h : skipB L g = false) : bgnTo K d L (g + 1) = bgnTo K d L g ++ bgn K d (L ++ [(g : Int)]) := by
  unfold bgnTo
  rw [List.range_succ, List.flatMap_append]
  simp [h]
theorem bgnTo_all (K d : Nat) (L : List Int) : bgnTo K d L (K + 1) = bgn K (d + 1) L := rfl
theorem bgnTo_pre (K d : Nat) (L : List Int) {g : Nat} (hg : g ≤ K + 1) : bgnTo K d L g <+: bgn K (d + 1) L := by
  rw [← bgnTo_all]
  have : ∀ j, bgnTo K d L g <+: bgnTo K d L (g + j) := fun j => by
    induction j with
    | zero => exact List.prefix_refl _
    | succ j ih =>
      refine ih.trans ?_
      rw [← Nat.add_assoc]
      cases h : skipB L ((g + j : Nat) : Int) with
      | true => rw [bgnTo_skip h]; exact List.prefix_refl _
      | false => rw [bgnTo_more h]; exact List.prefix_append _ _
  have h := this (K + 1 - g)
  rwa [show g + (K + 1 - g) = K + 1 by omega] at h
/-- What the call knows between two of its rounds. -/
structure Mid (W : World) (K n : Nat) (A : Option Addr) (m c bw bn bk l : Nat) (L : List Int) (U : Nat → Prop) (J : List (List Int) → World → Prop) (d g : Nat) (Ds : List Nat) (w' : World) : Prop where
  cap : Capt w' K n A m c bw bn bk L
  yb : Boxed w' W.heap.size 35 (.func (.yield l) #[] #[])
  j : J (bgnTo K d L g) w'
  kept : Kept (fun k => ¬U k ∧ blk A ≠ some k) W w'
  nodup : Ds.Nodup
  marks : ∀ D ∈ Ds, w'.heap[D]? = some (.deferred (some [])) ∧ W.heap.size ≤ D
  low : ∀ k, blk A = some k → k < W.heap.size
  lows : bw < W.heap.size ∧ bn < W.heap.size ∧ bk < W.heap.size
abbrev markD (D : Nat) : Deferred := { target := .collected D, args := #[] }
theorem own_no_mark {w : World} {A : Option Addr} {n c : Nat} {L : List Int} {D : Nat} (h : Own w 0 A n c L) (hD : w.heap[D]? = some (.deferred (some []))) : blk A ≠ some D := by
  intro e
  rcases h.row.2 with ⟨hv, _⟩ | ⟨g, cap, cur, hv, _, hg, _⟩
  · simp only [Value.slice.injEq] at hv
    rw [hv.1] at e; cases e
  · simp only [Value.slice.injEq] at hv
    rw [hv.1] at e
    simp only [blk, Option.some.injEq] at e
    subst e
    rw [hg] at hD; cases hD
/-- The end of the call. -/
theorem call_end {W w' : World} {A : Option Addr} {m c : Nat} {L : List Int} {U : Nat → Prop} {J Jx : List (List Int) → World → Prop} {T : List (List Int)} {Ds : List Nat} {tmps : Array Value}
    (hU : ∀ k, U k → k < W.heap.size) (hJ : Stable U J) (hJx : Stable U Jx) (h : J T w' ∨ ∃ q, q <+: T ∧ Jx q w') (hk : Kept (fun k => ¬U k ∧ blk A ≠ some k) W w') (hA : Own w' 0 A m c L)
    (hn : Ds.Nodup) (hm : ∀ D ∈ Ds, w'.heap[D]? = some (.deferred (some [])) ∧ W.heap.size ≤ D) :
    LeavesInM Fence.wide 0 Tryd.prog Tryd.f30 tmps (fun e W' => (∃ v, e = .returned v) ∧ (J T W' ∨ ∃ q, q <+: T ∧ Jx q W') ∧ Kept (fun k => ¬U k ∧ blk A ≠ some k) W W' ∧ Own W' 0 A m c L) (Ds.map markD) .returning w' := by
  refine leaves_marks Ds w' hn (fun D hD => (hm D hD).1) fun W' hk' => ⟨_, results_none rfl _ _ _, ⟨_, rfl⟩, ?_, ?_, ?_⟩
  · have hkU : Kept U w' W' := hk'.mono fun k _ hu hD => by have := hU k hu; have := (hm k hD).2; omega
    rcases h with h | ⟨q, hq, h⟩
    · exact .inl (hJ _ _ _ h hkU)
    · exact .inr ⟨q, hq, hJx _ _ _ h hkU⟩
  · exact hk.next hk' fun k hlt _ hD => by have := (hm k hD).2; omega
  · exact hA.keptU hk' fun k hk2 hD => own_no_mark hA (hm k hD).1 hk2
/-- What line.begun has made of a letter more. -/
def Made (wr : World) (K n : Nat) (A : Option Addr) (m c : Nat) (L : List Int) (g : Nat) (v : Value) (wx : World) : Prop :=
  ∃ (A' : Option Addr) (c' s : Nat), v = .func (.func 30) #[] (caps (s + 2) (s + 1) s) ∧ Capt wx K n A' (m + 1) c' (s + 2) (s + 1) s (L ++ [(g : Int)]) ∧ wr.heap.size ≤ s ∧ s + 2 < wx.heap.size ∧
    Kept (fun k => blk A ≠ some k) wr wx ∧ ((A' = A ∧ c' = c) ∨ ((∀ k, blk A' = some k → wr.heap.size ≤ k) ∧ Own wx 0 A m c L))
theorem made_of {wr wx : World} {K n : Nat} {A A' : Option Addr} {m c c' : Nat} {L : List Int} {g : Nat} {w2 : World} (hk : Kept (fun k => blk A ≠ some k) wr w2) (hA : Own w2 0 A' (m + 1) c' (L ++ [(g : Int)])) (ha : (A' = A ∧ c' = c) ∨ ((∀ k, blk A' = some k → wr.heap.size ≤ k) ∧ Own w2 0 A m c L))
    (hx : wx = ((w2.alloc (.cells #[.int .i64 (K : Int)] 3)).alloc (.cells #[.int .i64 (n : Int)] 3)).alloc (.cells #[.slice A' (m + 1) c'] 28)) :
    Made wr K n A m c L g (.func (.func 30) #[] #[.pointer (some ⟨w2.heap.size + 2, 0, none⟩), .pointer (some ⟨w2.heap.size + 1, 0, none⟩), .pointer (some ⟨w2.heap.size, 0, none⟩)]) wx := by
  subst hx
  have b1 := Boxed.new w2 3 (.int .i64 (K : Int))
  have b2 := Boxed.new (w2.alloc (.cells #[.int .i64 (K : Int)] 3)) 3 (.int .i64 (n : Int))
  have b3 := Boxed.new ((w2.alloc (.cells #[.int .i64 (K : Int)] 3)).alloc (.cells #[.int .i64 (n : Int)] 3)) 28 (.slice A' (m + 1) c')
  simp only [World.size_alloc] at b2 b3
  refine ⟨A', c', w2.heap.size, rfl, ⟨b3, b2.alloc _, (b1.alloc _).alloc _, ((hA.alloc _).alloc _).alloc _, fun k hk' => ?_⟩, hk.size, by simp, ((hk.trans (Kept.alloc _ _ _)).trans (Kept.alloc _ _ _)).trans (Kept.alloc _ _ _), ha.imp id fun h => ⟨h.1, ((h.2.alloc _).alloc _).alloc _⟩⟩
  have := (hA.lt k hk').2
  omega
theorem Mid.start {W X : World} {K n : Nat} {A : Option Addr} {m c bw bn bk l : Nat} {L : List Int} {U : Nat → Prop} {J : List (List Int) → World → Prop} {d : Nat} (hc : Capt W K n A m c bw bn bk L) (hJ : Stable U J) (h0 : J [] W) (hX : X = W.alloc (.cells #[.func (.yield l) #[] #[]] 35)) :
    Mid W K n A m c bw bn bk l L U J d 0 [] X := by
  subst hX
  have kX : ∀ S, Kept S W (W.alloc (.cells #[.func (.yield l) #[] #[]] 35)) := fun S => Kept.alloc _ _ _
  exact ⟨⟨hc.hw.alloc _, hc.hn.alloc _, hc.hk.alloc _, hc.own.alloc _, hc.ne⟩, Boxed.new _ _ _, hJ _ _ _ h0 (kX _), kX _, List.nodup_nil, (fun D hD => by cases hD), (fun k hk => (hc.own.lt k hk).2), hc.hw.lt, hc.hn.lt, hc.hk.lt⟩
theorem Mid.skipped {W w' : World} {K n : Nat} {A : Option Addr} {m c bw bn bk l : Nat} {L : List Int} {U : Nat → Prop} {J : List (List Int) → World → Prop} {d g : Nat} {Ds : List Nat} (h : Mid W K n A m c bw bn bk l L U J d g Ds w') (hs : skipB L (g : Int) = true) :
    Mid W K n A m c bw bn bk l L U J d (g + 1) Ds w' := ⟨h.cap, h.yb, by rw [bgnTo_skip hs]; exact h.j, h.kept, h.nodup, h.marks, h.low, h.lows⟩
theorem Capt.below {W W' : World} {K n : Nat} {A : Option Addr} {m c bw bn bk : Nat} {L : List Int} (h : Capt W K n A m c bw bn bk L) (hb : Below W.heap.size W W') : Capt W' K n A m c bw bn bk L :=
  ⟨(hb.block _ h.hw.lt).trans h.hw, (hb.block _ h.hn.lt).trans h.hn, (hb.block _ h.hk.lt).trans h.hk, h.own.below hb, h.ne⟩
theorem own_no_loop {w : World} {A : Option Addr} {n c : Nat} {L : List Int} {D : Nat} {r : Loop} (h : Own w 0 A n c L) (hD : w.heap[D]? = some (.loop r)) : blk A ≠ some D := by
  intro e
  rcases h.row.2 with ⟨hv, _⟩ | ⟨g, cap, cur, hv, _, hg, _⟩
  · simp only [Value.slice.injEq] at hv
    rw [hv.1] at e; cases e
  · simp only [Value.slice.injEq] at hv
    rw [hv.1] at e
    simp only [blk, Option.some.injEq] at e
    subst e
    rw [hg] at hD; cases hD
theorem own_put {w : World} {A : Option Addr} {n c : Nat} {L : List Int} {l : Nat} {r : Loop} {o : Obj} (h : Own w 0 A n c L) (hl : w.heap[l]? = some (.loop r)) : Own (w.putObj l o) 0 A n c L :=
  h.keptU (Kept.putObj w l o fun _ h => h) fun _ hk e => own_no_loop h hl (e ▸ hk)
def innU (U : Nat → Prop) (W : World) : Nat → Prop := fun k => U k ∨ k = W.heap.size
section
variable {W wr wx W4 : World} {K n : Nat} {A A' : Option Addr} {m c c' bw bn bk l s : Nat} {L : List Int} {U : Nat → Prop} {J Jx : List (List Int) → World → Prop} {d g : Nat} {Ds : List Nat}
theorem Mid.size (h : Mid W K n A m c bw bn bk l L U J d g Ds wr) : W.heap.size < wr.heap.size := h.yb.lt
/-- The new slice's block is the old one, or a new one. -/
theorem new_blk (h : Mid W K n A m c bw bn bk l L U J d g Ds wr) (hA2 : (A' = A ∧ c' = c) ∨ ((∀ k, blk A' = some k → wr.heap.size ≤ k) ∧ Own wx 0 A m c L)) {k : Nat} (hk : k < wr.heap.size) (hne : blk A ≠ some k) : blk A' ≠ some k := by
  intro e
  rcases hA2 with ⟨rfl, _⟩ | ⟨h2, _⟩
  · exact hne e
  · have := h2 k e; omega
theorem inn_away (h : Mid W K n A m c bw bn bk l L U J d g Ds wr) (haw : Away A bw bn bk U) (hU : ∀ k, U k → k < W.heap.size) (hs1 : wr.heap.size ≤ s) (hs2 : s + 2 < wx.heap.size) {L' : List Int} (hC : Capt wx K n A' (m + 1) c' (s + 2) (s + 1) s L')
    (hA2 : (A' = A ∧ c' = c) ∨ ((∀ k, blk A' = some k → wr.heap.size ≤ k) ∧ Own wx 0 A m c L)) : Away A' (s + 2) (s + 1) s (fun k => innU U W k ∨ k = wx.heap.size ∨ k = wx.heap.size + 1) := by
  have hz := h.size
  have low : ∀ k, innU U W k → k ≤ W.heap.size := fun k hk => by rcases hk with hk | hk; exact Nat.le_of_lt (hU k hk); omega
  refine ⟨?_, ?_, ?_, fun k hk => ?_⟩
  · rintro (e | e | e); have := low _ e; omega; omega; omega
  · rintro (e | e | e); have := low _ e; omega; omega; omega
  · rintro (e | e | e); have := low _ e; omega; omega; omega
  · have hlt := (hC.own.lt k hk).2
    rintro (e | e | e)
    · rcases hA2 with ⟨rfl, _⟩ | ⟨h2, _⟩
      · have hl := h.low k hk
        rcases e with e | e
        · exact haw.2.2.2 k hk e
        · omega
      · have := h2 k hk
        have := low k e
        omega
    · omega
    · omega
theorem inn_start (h : Mid W K n A m c bw bn bk l L U J d g Ds wr) (haw : Away A bw bn bk U) (hJ : Stable U J) (hk : Kept (fun k => blk A ≠ some k) wr wx) :
    J (bgnTo K d L g ++ []) wx ∧ Boxed wx W.heap.size 35 (.func (.yield l) #[] #[]) := by
  rw [List.append_nil]
  exact ⟨hJ _ _ _ h.j (hk.mono fun k _ hu e => haw.2.2.2 k e hu), hk.heap h.yb fun e => by have := h.low _ e; omega⟩
/-- Behind the loop over one letter's words. -/
theorem inn_after (h : Mid W K n A m c bw bn bk l L U J d g Ds wr) (haw : Away A bw bn bk U) (hU : ∀ k, U k → k < W.heap.size) (hz : wr.heap.size ≤ wx.heap.size) (hkx : Kept (fun k => blk A ≠ some k) wr wx) (_hAx : ∀ k, blk A' = some k → k < wx.heap.size)
    (hA2 : (A' = A ∧ c' = c) ∨ ((∀ k, blk A' = some k → wr.heap.size ≤ k) ∧ Own wx 0 A m c L)) (hk : Kept (fun k => ¬innU U W k ∧ blk A' ≠ some k) wx W4) (hf : Own W4 0 A' (m + 1) c' (L ++ [(g : Int)])) (hD : W4.heap[wx.heap.size]? = some (.deferred (some []))) :
    Capt W4 K n A m c bw bn bk L ∧ Kept (fun k => ¬U k ∧ blk A ≠ some k) W W4 ∧ (wx.heap.size :: Ds).Nodup ∧ (∀ D ∈ wx.heap.size :: Ds, W4.heap[D]? = some (.deferred (some [])) ∧ W.heap.size ≤ D) := by
  have hsz := h.size
  have hne := h.cap.ne
  have ho : ∀ k, k < W.heap.size → ¬U k → blk A ≠ some k → ¬innU U W k ∧ blk A' ≠ some k := fun k hk1 hk2 hk3 => ⟨fun e => by rcases e with e | e; exact hk2 e; omega, new_blk h hA2 (by omega) hk3⟩
  have keep : ∀ k o, k < W.heap.size → ¬U k → blk A ≠ some k → wr.heap[k]? = some o → W4.heap[k]? = some o := fun k o h1 h2 h3 h4 => hk.heap (hkx.heap h4 h3) (ho k h1 h2 h3)
  refine ⟨⟨keep _ _ h.lows.1 haw.1 (fun e => (hne _ e).1 rfl) h.cap.hw, keep _ _ h.lows.2.1 haw.2.1 (fun e => (hne _ e).2.1 rfl) h.cap.hn, keep _ _ h.lows.2.2 haw.2.2.1 (fun e => (hne _ e).2.2 rfl) h.cap.hk, ?_, hne⟩, ?_, ?_, ?_⟩
  · rcases hA2 with ⟨rfl, rfl⟩ | ⟨h2, h3⟩
    · exact hf.shrink
    · refine h3.keptU hk fun k hk1 => ⟨fun e => ?_, fun e => ?_⟩
      · have := h.low k hk1
        rcases e with e | e
        · exact haw.2.2.2 k hk1 e
        · omega
      · have := h2 k e
        have := h.low k hk1
        omega
  · have s1 := h.kept.next hkx (fun k _ hk2 => hk2.2)
    exact s1.next hk fun k hk1 hk2 => ho k hk1 hk2.1 hk2.2
  · refine List.nodup_cons.2 ⟨fun hm => ?_, h.nodup⟩
    have := (Array.getElem?_eq_some_iff.1 (h.marks _ hm).1).1
    omega
  · intro D hm
    rcases List.mem_cons.1 hm with rfl | hm
    · exact ⟨hD, by omega⟩
    · obtain ⟨m1, m2⟩ := h.marks D hm
      have hlt := (Array.getElem?_eq_some_iff.1 m1).1
      have hAD : blk A ≠ some D := own_no_mark h.cap.own m1
      refine ⟨hk.heap (hkx.heap m1 hAD) ⟨fun e => ?_, new_blk h hA2 hlt hAD⟩, m2⟩
      rcases e with e | e
      · have := hU D e; omega
      · have hy := h.yb
        subst e
        rw [show wr.heap[W.heap.size]? = _ from hy] at m1
        cases m1
theorem inn_next (h : Mid W K n A m c bw bn bk l L U J d g Ds wr) (haw : Away A bw bn bk U) (hU : ∀ k, U k → k < W.heap.size) (hz : wr.heap.size ≤ wx.heap.size) (hkx : Kept (fun k => blk A ≠ some k) wr wx) (hAx : ∀ k, blk A' = some k → k < wx.heap.size)
    (hA2 : (A' = A ∧ c' = c) ∨ ((∀ k, blk A' = some k → wr.heap.size ≤ k) ∧ Own wx 0 A m c L)) (hsk : skipB L (g : Int) = false) (hI : J (bgnTo K d L g ++ bgn K d (L ++ [(g : Int)])) W4 ∧ Boxed W4 W.heap.size 35 (.func (.yield l) #[] #[]))
    (hk : Kept (fun k => ¬innU U W k ∧ blk A' ≠ some k) wx W4) (hf : Own W4 0 A' (m + 1) c' (L ++ [(g : Int)])) (hD : W4.heap[wx.heap.size]? = some (.deferred (some []))) :
    Mid W K n A m c bw bn bk l L U J d (g + 1) (wx.heap.size :: Ds) W4 := by
  obtain ⟨h1, h2, h3, h4⟩ := inn_after h haw hU hz hkx hAx hA2 hk hf hD
  exact ⟨h1, hI.2, by rw [bgnTo_more hsk]; exact hI.1, h2, h3, h4, h.low, h.lows⟩
end
set_option maxRecDepth 100000 in
set_option maxHeartbeats 12800000 in
theorem begun_succ (K n d : Nat) (hK : K ≤ 40) (hn : n ≤ 400) (L : List Int) (A : Option Addr) (m c bw bn bk : Nat) (hmd : m + (d + 1) = n) (h40 : ∀ x ∈ L, 0 ≤ x ∧ x ≤ 40)
    (ih : ∀ (L : List Int) (A : Option Addr) (m c bw bn bk : Nat), m + d = n → (∀ x ∈ L, 0 ≤ x ∧ x ≤ 40) →
      Seq Tryd.prog 30 (caps bw bn bk) false (bgn K d L) (fun W => Capt W K n A m c bw bn bk L) (Away A bw bn bk) (fun k => blk A ≠ some k) (fun W => Own W 0 A m c L)) :
    Seq Tryd.prog 30 (caps bw bn bk) false (bgn K (d + 1) L) (fun W => Capt W K n A m c bw bn bk L) (Away A bw bn bk) (fun k => blk A ≠ some k) (fun W => Own W 0 A m c L) := by
  intro l U J Jx W hC hU haw hJ hJx hR h0
  have hmid := fun (X : World) (hX : X = W.alloc (.cells #[.func (.yield l) #[] #[]] 35)) => Mid.start (d := d) (l := l) (X := X) hC hJ h0 hX
  have hCw := hC.hw.lt
  have hCn := hC.hn.lt
  have hCk := hC.hk.lt
  have HCne := Lib.hid hC.ne
  have HU := Lib.hid hU
  have HAW := Lib.hid haw
  have HIH := Lib.hid ih
  have H40 := Lib.hid h40
  have HR := Lib.hid hR
  have hmn : ((m : Int) == (n : Int)) = false := by simp; omega
  refine callsIn_of_wp_marks Tryd.func30 rfl trivial ?_ rfl
  clear hC hU haw h40 hR h0 ih
  simp only [Tryd.ntmps30, List.size_toArray, List.length_cons, List.length_nil, Nat.reduceAdd, Nat.reduceSub, Array.replicate_succ, Array.replicate_zero, List.push_toArray, List.append_toArray, List.nil_append, List.cons_append]
  refine wpIn_wide.2 ?_
  go_upto_region 1 with fail
  have hm0 := hmid _ rfl
  clear hmid
  generalize W.alloc (.cells #[.func (.yield l) #[] #[]] 35) = X at hm0 ⊢
  have c1 := hm0.cap.hw.cell
  have c2 := hm0.cap.hn.cell
  go_wp2_with fail
  clear c1 c2
  have HM0 := Lib.hid hm0
  clear hm0
  refine wp_loop (fun a' w' => ∃ (g : Nat) (Ds : List Nat), g ≤ K + 1 ∧ Mid W K n A m c bw bn bk l L U J d g Ds w' ∧ ∃ u6 u7 u8 u9 u10 u11 u12 u13 u14 u15 u16 u17 u18 u19 u20 u21 u22 u23 u24 u25 u26 u27 u28 u29 u30 u31 u32 u33 u34 u35 u36 u37 u38 u39 u40 u41 u42 u43 u44 u45 u46 u47 u48 u49 u50 u51 u52 u53 u54 u55 u56 u57 u58 u59 u60, a' = { tmps := #[.func (.yield l) #[] #[], .pointer (some ⟨bw, 0, none⟩), .pointer (some ⟨bn, 0, none⟩), .pointer (some ⟨bk, 0, none⟩), .pointer (some ⟨W.heap.size, 0, none⟩), .int .i64 (g : Int), u6, u7, u8, u9, u10, u11, u12, u13, u14, u15, u16, u17, u18, u19, u20, u21, u22, u23, u24, u25, u26, u27, u28, u29, u30, u31, u32, u33, u34, u35, u36, u37, u38, u39, u40, u41, u42, u43, u44, u45, u46, u47, u48, u49, u50, u51, u52, u53, u54, u55, u56, u57, u58, u59, u60], defers := Ds.map markD }) (fun a' _ => K + 1 - (intOf (a'.tmps.getD 5 undef)).toNat) ?start ?round
  case start => exact ⟨0, [], Nat.zero_le _, HM0.out, _, _, _, _, _, _, _, _, _, _, _, _, _, _, _, _, _, _, _, _, _, _, _, _, _, _, _, _, _, _, _, _, _, _, _, _, _, _, _, _, _, _, _, _, _, _, _, _, _, _, _, _, _, _, _, rfl⟩
  case round =>
    rintro a wr ⟨g, Ds, hg, hM, u6, u7, u8, u9, u10, u11, u12, u13, u14, u15, u16, u17, u18, u19, u20, u21, u22, u23, u24, u25, u26, u27, u28, u29, u30, u31, u32, u33, u34, u35, u36, u37, u38, u39, u40, u41, u42, u43, u44, u45, u46, u47, u48, u49, u50, u51, u52, u53, u54, u55, u56, u57, u58, u59, u60, rfl⟩
    clear HM0
    by_cases hlt : g ≤ K
    · have i0 : (g : Int) ≤ (K : Int) := by omega
      have c1 := hM.cap.hw.cell
      have c2 := hM.cap.hn.cell
      have c3 := hM.cap.hk.cell
      have hAo := hM.cap.own
      have hlen := hAo.len
      have hg64 : I64 (g : Int) := by unfold I64; omega
      have hcaplt : m < 17592186044416 := by omega
      have HM := Lib.hid hM
      have HD := Lib.hid hmd
      clear hM hmd
      -- the cases of the test
      have hcases : (m = 0 ∧ skipB L (g : Int) = false) ∨ ∃ (q ga : Nat) (x y : Int), m = q + 1 ∧ A = some ⟨ga, 0, none⟩ ∧ wr.cell? ⟨ga, q, none⟩ = some (.int .i64 x) ∧ wr.cell? ⟨ga, 0, none⟩ = some (.int .i64 y) ∧
          (((x == (g : Int)) = true ∧ skipB L (g : Int) = true) ∨ ((x == (g : Int)) = false ∧ (((q + 1) % 2 = 0 ∧ (g : Int) < y ∧ skipB L (g : Int) = true) ∨ ((q + 1) % 2 = 0 ∧ ¬(g : Int) < y ∧ skipB L (g : Int) = false) ∨ (¬(q + 1) % 2 = 0 ∧ skipB L (g : Int) = false)))) := by
        rcases Nat.eq_zero_or_pos m with h0 | h0
        · refine .inl ⟨h0, ?_⟩
          have : L = [] := List.eq_nil_of_length_eq_zero (by omega)
          subst this
          rfl
        · right
          obtain ⟨ga, rfl, _, _⟩ := hAo.form h0
          obtain ⟨q, rfl⟩ : ∃ q, m = q + 1 := ⟨m - 1, by omega⟩
          have hx : L[q]? = some (L.getLast?.getD 0) := by
            rw [List.getLast?_eq_getElem?, hlen, Nat.add_sub_cancel, List.getElem?_eq_getElem (by omega)]
            rfl
          have hy : L[0]? = some (L.head?.getD 0) := by
            cases L with
            | nil => simp at hlen
            | cons z L => rfl
          refine ⟨q, ga, L.getLast?.getD 0, L.head?.getD 0, rfl, rfl, hAo.cell hx, hAo.cell hy, ?_⟩
          unfold skipB
          rw [hlen]
          by_cases e1 : L.getLast?.getD 0 = (g : Int)
          · left; rw [e1]; simp
          · right
            refine ⟨by simpa using e1, ?_⟩
            by_cases e2 : (q + 1) % 2 = 0
            · by_cases e3 : (g : Int) < L.head?.getD 0
              · left; exact ⟨e2, e3, by simp [e2, e3]⟩
              · right; left; exact ⟨e2, e3, by simp [e1, e2, e3]⟩
            · right; right; exact ⟨e2, by simp [e1, e2]⟩
      rcases hcases with ⟨hm, hsk⟩ | ⟨q, ga, x, y, rfl, rfl, cx, cy, ⟨t1, hsk⟩ | ⟨t1, ⟨e2, e3, hsk⟩ | ⟨e2, e3, hsk⟩ | ⟨e2, hsk⟩⟩⟩
      · have i1 : ¬ (0 : Int) < (m : Int) := by omega
        clear hm
        have HS := Lib.hid hsk
        have NE := HCne.out
        have KP := Lib.hid (show ∀ wx, Kept (fun k => blk (A) ≠ some k) wr wx → (Kept (fun k => blk (A) ≠ some k) wr wx ∧ wx.cell? ⟨bw, 0, none⟩ = some (.slice (A) m c) ∧ wx.cell? ⟨bn, 0, none⟩ = some (.int .i64 (n : Int)) ∧ wx.cell? ⟨bk, 0, none⟩ = some (.int .i64 (K : Int))) from
          fun wx h => ⟨h, h.cell c1 (fun e => (NE _ e).1 rfl), h.cell c2 (fun e => (NE _ e).2.1 rfl), h.cell c3 (fun e => (NE _ e).2.2 rfl)⟩)
        clear hsk hlen NE
        go_upto_region 8 with fail
        go_cut [55] from 6 to 60 (fun v wx => Made wr K n (A) m c L g v wx)
        case first =>
          go_region_held3 (fun wx => Kept (fun k => blk (A) ≠ some k) wr wx ∧ wx.cell? ⟨bw, 0, none⟩ = some (.slice (A) m c) ∧ wx.cell? ⟨bn, 0, none⟩ = some (.int .i64 (n : Int)) ∧ wx.cell? ⟨bk, 0, none⟩ = some (.int .i64 (K : Int)))
            (first | assumption | exact KP.out _ (Kept.drew _ _) | exact KP.out _ (Kept.trans (And.left (by assumption)) (Kept.alloc _ _ _)) | exact KP.out _ (Kept.trans (And.left (by assumption)) (Kept.drew _ _)) | exact KP.out _ (((Kept.trans (And.left (by assumption)) (Kept.alloc _ _ _)).trans (Kept.alloc _ _ _)).trans (Kept.alloc _ _ _)))
            (first
              | ((refine stepX (base := 0) (A := A) (n := m) (c := c) (L := L) (y := (g : Int)) rfl (.tmp 51) (.tmp 53) (by rfl) (by rfl) (by repeat (first | with_reducible exact hAo | with_reducible apply Own.drew | with_reducible apply Own.alloc)) (by rfl) (by rfl) (by first | (rw [World.cell?_alloc_at _ _ _ _ rfl]; rfl) | (simp; done)) hg64 hcaplt (Nat.zero_le _) ?_)
                 intro A1 c5 w2 hown2 hb2 hg2 hl2
                 have ha2 := hl2.imp id (fun e => And.intro (show ∀ k, blk A1 = some k → wr.heap.size ≤ k from fun k hk => by rw [e.1] at hk; cases hk; exact Kept.size (And.left (by assumption))) e.2)
                 have k2 := KP.out w2 (Kept.next (by exact And.left (by assumption)) (Kept.of_grown hg2 (fun k h e => h e)) (fun _ _ h => h)))
              | ((go_at_call 16; (with_reducible refine (line_begun _ _ _ _ _ _).mono ?_); rintro e wz ⟨rfl, rfl⟩)))
          all_goals
            go_wp2_with fail
            go_meet
            case rel => exact made_of (And.left k2) hown2 ha2 rfl
        case rest =>
          obtain ⟨A', c', s, rfl, hC2, hs1, hs2, hk2, hA2⟩ := hcut
          have HC2 := Lib.hid hC2
          have HK2 := Lib.hid hk2
          have HA2 := Lib.hid hA2
          clear hC2 hk2 hA2 c1 c2 c3
          go_wp2_with fail
          refine wpIn_wide (n := 0).1 ?_
          refine wp_range (hand := false) (T := bgn K d (L ++ [(g : Int)])) rfl (enters_of Tryd.func30 (by kernel_rfl) rfl) (HIH.out (L ++ [(g : Int)]) A' (m + 1) c' (s + 2) (s + 1) s (by have := HD.out; omega) (in40_snoc H40.out (by omega))) (innU U W)
            (fun k hk => ?_) (fun W' hb => HC2.out.below hb) (inn_away HM.out HAW.out HU.out hs1 hs2 HC2.out HA2.out)
            (fun q w' => J (bgnTo K d L g ++ q) w' ∧ Boxed w' W.heap.size 35 (.func (.yield l) #[] #[])) (fun c q w' => c = .ret ∧ Jx (bgnTo K d L g ++ q) w') ?_ ?_ (inn_start HM.out HAW.out hJ HK2.out) (fun _ _ _ _ h1 h2 => own_put h1 h2) ?_ ?_ ?_
          · have := HM.out.size
            have := HK2.out.size
            rcases hk with hk | hk
            · have := HU.out k hk; omega
            · omega
          · exact fun q a b hs hk => ⟨hJ _ _ _ hs.1 (hk.mono fun k _ hu => .inl hu), hk.heap hs.2 (.inr rfl)⟩
          · exact fun c0 q a b hs hk => ⟨hs.1, hJx _ _ _ hs.2 (hk.mono fun k _ hu => .inl hu)⟩
          · intro l2 pre B nB cB LB W5 hl2 hBU hpre
            have hpreT : (bgnTo K d L g ++ pre) ++ [LB] <+: bgn K (d + 1) L := by
              rw [List.append_assoc]
              refine ((List.prefix_append_right_inj _).2 hpre).trans ?_
              rw [← bgnTo_more HS.out]
              exact bgnTo_pre K d L (by omega)
            have HPT := Lib.hid hpreT
            clear hpreT hpre
            gi_wp2
            refine ⟨trivial, fun W2 hz2 ⟨hj2, hy2⟩ hB2 => ?_⟩
            have c4 := hy2.cell
            obtain ⟨fn, tmps, assign, body, hy, hRr⟩ := YieldAt.inRound (l' := l2) (HR.out (bgnTo K d L g ++ pre) B nB cB LB W2 hj2 hB2 (fun k hk hu => hBU k hk (.inl hu)) HPT.out)
            gi_wp2
            refine ⟨rfl, hRr.mono ?_⟩
            rintro e W3 ⟨hh, hk⟩
            have hyb3 : Boxed W3 W.heap.size 35 (.func (.yield l) #[] #[]) := hk.heap hy2 ⟨fun hu => Nat.lt_irrefl _ (HU.out _ hu), fun h => by cases h⟩
            have hk3 : Kept (fun k => ¬innU U W k ∧ (false = true → blk B ≠ some k)) W2 W3 := hk.mono fun k _ h => ⟨fun hu => h.1 (.inl hu), h.2⟩
            clear hy hRr hk
            rcases hh with ⟨rfl, hJ3⟩ | ⟨rfl, hx3⟩
            · gi_wp2
              exact ⟨hk3, by rw [← List.append_assoc]; exact hJ3, hyb3⟩
            · gi_wp2
              exact ⟨hk3, rfl, by rw [← List.append_assoc]; exact hx3⟩
          · intro W4 hI4 hk4 hf4 hD4
            have hmid := inn_next HM.out HAW.out HU.out HK2.out.size HK2.out (fun k hk => (HC2.out.own.lt k hk).2) HA2.out HS.out hI4 hk4 hf4 hD4
            have HM4 := Lib.hid hmid
            clear hmid hI4 hk4 hf4 hD4
            go_wp2_with fail
            refine ⟨⟨g + 1, wc.heap.size :: Ds, by omega, HM4.out, _, _, _, _, _, _, _, _, _, _, _, _, _, _, _, _, _, _, _, _, _, _, _, _, _, _, _, _, _, _, _, _, _, _, _, _, _, _, _, _, _, _, _, _, _, _, _, _, _, _, _, _, _, _, _, rfl⟩, ?_⟩
            simp [intOf]; omega
          · intro cd q0 W4 hq4 hI4 hk4 hf4 hD4
            obtain ⟨rfl, hx4⟩ := hI4
            obtain ⟨h1, h2, h3, h4⟩ := inn_after HM.out HAW.out HU.out HK2.out.size HK2.out (fun k hk => (HC2.out.own.lt k hk).2) HA2.out hk4 hf4 hD4
            have hpreT : bgnTo K d L g ++ q0 <+: bgn K (d + 1) L := by
              refine ((List.prefix_append_right_inj _).2 hq4).trans ?_
              rw [← bgnTo_more HS.out]
              exact bgnTo_pre K d L (by omega)
            have HX := Lib.hid (show bgn K (d + 1) L = bgn K (d + 1) L ∧ Jx (bgnTo K d L g ++ q0) W4 from ⟨rfl, hx4⟩)
            have HPT := Lib.hid hpreT
            clear hpreT hq4 hx4 hk4 hf4 hD4
            refine wpIn_wide.2 ?_
            go_wp2_with fail
            exact call_end (Ds := wc.heap.size :: Ds) HU.out hJ hJx (.inr ⟨_, HPT.out, HX.out.2⟩) h2 h1.own h3 h4
      · have p1 : (0 : Int) < (q : Int) + 1 := by omega
        have HS := Lib.hid hsk
        clear hsk cy hAo hlen
        go_wp2_with fail
        refine ⟨⟨g + 1, Ds, by omega, ?mid, _, _, _, _, _, _, _, _, _, _, _, _, _, _, _, _, _, _, _, _, _, _, _, _, _, _, _, _, _, _, _, _, _, _, _, _, _, _, _, _, _, _, _, _, _, _, _, _, _, _, _, _, _, _, _, rfl⟩, ?mu⟩
        case mid => exact HM.out.skipped HS.out
        case mu => simp [intOf]; omega
      · have p1 : (0 : Int) < (q : Int) + 1 := by omega
        have p2 : ((q : Int) + 1) % 2 = 0 := by omega
        have HS := Lib.hid hsk
        clear hsk hAo hlen e2
        go_wp2_with fail
        refine ⟨⟨g + 1, Ds, by omega, ?mid2, _, _, _, _, _, _, _, _, _, _, _, _, _, _, _, _, _, _, _, _, _, _, _, _, _, _, _, _, _, _, _, _, _, _, _, _, _, _, _, _, _, _, _, _, _, _, _, _, _, _, _, _, _, _, _, rfl⟩, ?mu2⟩
        case mid2 => exact HM.out.skipped HS.out
        case mu2 => simp [intOf]; omega
      · have p1 : (0 : Int) < (q : Int) + 1 := by omega
        have p2 : ((q : Int) + 1) % 2 = 0 := by omega
        clear e2
        have HS := Lib.hid hsk
        have NE := HCne.out
        have KP := Lib.hid (show ∀ wx, Kept (fun k => blk (some ⟨ga, 0, none⟩) ≠ some k) wr wx → (Kept (fun k => blk (some ⟨ga, 0, none⟩) ≠ some k) wr wx ∧ wx.cell? ⟨bw, 0, none⟩ = some (.slice (some ⟨ga, 0, none⟩) (q + 1) c) ∧ wx.cell? ⟨bn, 0, none⟩ = some (.int .i64 (n : Int)) ∧ wx.cell? ⟨bk, 0, none⟩ = some (.int .i64 (K : Int))) from
          fun wx h => ⟨h, h.cell c1 (fun e => (NE _ e).1 rfl), h.cell c2 (fun e => (NE _ e).2.1 rfl), h.cell c3 (fun e => (NE _ e).2.2 rfl)⟩)
        clear hsk hlen NE
        go_upto_region 8 with fail
        go_cut [55] from 6 to 60 (fun v wx => Made wr K n (some ⟨ga, 0, none⟩) (q + 1) c L g v wx)
        case first =>
          go_region_held3 (fun wx => Kept (fun k => blk (some ⟨ga, 0, none⟩) ≠ some k) wr wx ∧ wx.cell? ⟨bw, 0, none⟩ = some (.slice (some ⟨ga, 0, none⟩) (q + 1) c) ∧ wx.cell? ⟨bn, 0, none⟩ = some (.int .i64 (n : Int)) ∧ wx.cell? ⟨bk, 0, none⟩ = some (.int .i64 (K : Int)))
            (first | assumption | exact KP.out _ (Kept.drew _ _) | exact KP.out _ (Kept.trans (And.left (by assumption)) (Kept.alloc _ _ _)) | exact KP.out _ (Kept.trans (And.left (by assumption)) (Kept.drew _ _)) | exact KP.out _ (((Kept.trans (And.left (by assumption)) (Kept.alloc _ _ _)).trans (Kept.alloc _ _ _)).trans (Kept.alloc _ _ _)))
            (first
              | ((refine stepX (base := 0) (A := some ⟨ga, 0, none⟩) (n := (q + 1)) (c := c) (L := L) (y := (g : Int)) rfl (.tmp 51) (.tmp 53) (by rfl) (by rfl) (by repeat (first | with_reducible exact hAo | with_reducible apply Own.drew | with_reducible apply Own.alloc)) (by rfl) (by rfl) (by first | (rw [World.cell?_alloc_at _ _ _ _ rfl]; rfl) | (simp; done)) hg64 hcaplt (Nat.zero_le _) ?_)
                 intro A1 c5 w2 hown2 hb2 hg2 hl2
                 have ha2 := hl2.imp id (fun e => And.intro (show ∀ k, blk A1 = some k → wr.heap.size ≤ k from fun k hk => by rw [e.1] at hk; cases hk; exact Kept.size (And.left (by assumption))) e.2)
                 have k2 := KP.out w2 (Kept.next (by exact And.left (by assumption)) (Kept.of_grown hg2 (fun k h e => h e)) (fun _ _ h => h)))
              | ((go_at_call 16; (with_reducible refine (line_begun _ _ _ _ _ _).mono ?_); rintro e wz ⟨rfl, rfl⟩)))
          all_goals
            go_wp2_with fail
            go_meet
            case rel => exact made_of (And.left k2) hown2 ha2 rfl
        case rest =>
          obtain ⟨A', c', s, rfl, hC2, hs1, hs2, hk2, hA2⟩ := hcut
          have HC2 := Lib.hid hC2
          have HK2 := Lib.hid hk2
          have HA2 := Lib.hid hA2
          clear hC2 hk2 hA2 c1 c2 c3
          go_wp2_with fail
          refine wpIn_wide (n := 0).1 ?_
          refine wp_range (hand := false) (T := bgn K d (L ++ [(g : Int)])) rfl (enters_of Tryd.func30 (by kernel_rfl) rfl) (HIH.out (L ++ [(g : Int)]) A' ((q + 1) + 1) c' (s + 2) (s + 1) s (by have := HD.out; omega) (in40_snoc H40.out (by omega))) (innU U W)
            (fun k hk => ?_) (fun W' hb => HC2.out.below hb) (inn_away HM.out HAW.out HU.out hs1 hs2 HC2.out HA2.out)
            (fun q w' => J (bgnTo K d L g ++ q) w' ∧ Boxed w' W.heap.size 35 (.func (.yield l) #[] #[])) (fun c q w' => c = .ret ∧ Jx (bgnTo K d L g ++ q) w') ?_ ?_ (inn_start HM.out HAW.out hJ HK2.out) (fun _ _ _ _ h1 h2 => own_put h1 h2) ?_ ?_ ?_
          · have := HM.out.size
            have := HK2.out.size
            rcases hk with hk | hk
            · have := HU.out k hk; omega
            · omega
          · exact fun q a b hs hk => ⟨hJ _ _ _ hs.1 (hk.mono fun k _ hu => .inl hu), hk.heap hs.2 (.inr rfl)⟩
          · exact fun c0 q a b hs hk => ⟨hs.1, hJx _ _ _ hs.2 (hk.mono fun k _ hu => .inl hu)⟩
          · intro l2 pre B nB cB LB W5 hl2 hBU hpre
            have hpreT : (bgnTo K d L g ++ pre) ++ [LB] <+: bgn K (d + 1) L := by
              rw [List.append_assoc]
              refine ((List.prefix_append_right_inj _).2 hpre).trans ?_
              rw [← bgnTo_more HS.out]
              exact bgnTo_pre K d L (by omega)
            have HPT := Lib.hid hpreT
            clear hpreT hpre
            gi_wp2
            refine ⟨trivial, fun W2 hz2 ⟨hj2, hy2⟩ hB2 => ?_⟩
            have c4 := hy2.cell
            obtain ⟨fn, tmps, assign, body, hy, hRr⟩ := YieldAt.inRound (l' := l2) (HR.out (bgnTo K d L g ++ pre) B nB cB LB W2 hj2 hB2 (fun k hk hu => hBU k hk (.inl hu)) HPT.out)
            gi_wp2
            refine ⟨rfl, hRr.mono ?_⟩
            rintro e W3 ⟨hh, hk⟩
            have hyb3 : Boxed W3 W.heap.size 35 (.func (.yield l) #[] #[]) := hk.heap hy2 ⟨fun hu => Nat.lt_irrefl _ (HU.out _ hu), fun h => by cases h⟩
            have hk3 : Kept (fun k => ¬innU U W k ∧ (false = true → blk B ≠ some k)) W2 W3 := hk.mono fun k _ h => ⟨fun hu => h.1 (.inl hu), h.2⟩
            clear hy hRr hk
            rcases hh with ⟨rfl, hJ3⟩ | ⟨rfl, hx3⟩
            · gi_wp2
              exact ⟨hk3, by rw [← List.append_assoc]; exact hJ3, hyb3⟩
            · gi_wp2
              exact ⟨hk3, rfl, by rw [← List.append_assoc]; exact hx3⟩
          · intro W4 hI4 hk4 hf4 hD4
            have hmid := inn_next HM.out HAW.out HU.out HK2.out.size HK2.out (fun k hk => (HC2.out.own.lt k hk).2) HA2.out HS.out hI4 hk4 hf4 hD4
            have HM4 := Lib.hid hmid
            clear hmid hI4 hk4 hf4 hD4
            go_wp2_with fail
            refine ⟨⟨g + 1, wc.heap.size :: Ds, by omega, HM4.out, _, _, _, _, _, _, _, _, _, _, _, _, _, _, _, _, _, _, _, _, _, _, _, _, _, _, _, _, _, _, _, _, _, _, _, _, _, _, _, _, _, _, _, _, _, _, _, _, _, _, _, _, _, _, _, rfl⟩, ?_⟩
            simp [intOf]; omega
          · intro cd q0 W4 hq4 hI4 hk4 hf4 hD4
            obtain ⟨rfl, hx4⟩ := hI4
            obtain ⟨h1, h2, h3, h4⟩ := inn_after HM.out HAW.out HU.out HK2.out.size HK2.out (fun k hk => (HC2.out.own.lt k hk).2) HA2.out hk4 hf4 hD4
            have hpreT : bgnTo K d L g ++ q0 <+: bgn K (d + 1) L := by
              refine ((List.prefix_append_right_inj _).2 hq4).trans ?_
              rw [← bgnTo_more HS.out]
              exact bgnTo_pre K d L (by omega)
            have HX := Lib.hid (show bgn K (d + 1) L = bgn K (d + 1) L ∧ Jx (bgnTo K d L g ++ q0) W4 from ⟨rfl, hx4⟩)
            have HPT := Lib.hid hpreT
            clear hpreT hq4 hx4 hk4 hf4 hD4
            refine wpIn_wide.2 ?_
            go_wp2_with fail
            exact call_end (Ds := wc.heap.size :: Ds) HU.out hJ hJx (.inr ⟨_, HPT.out, HX.out.2⟩) h2 h1.own h3 h4
      · have p1 : (0 : Int) < (q : Int) + 1 := by omega
        have p2 : ¬((q : Int) + 1) % 2 = 0 := by omega
        clear e2
        have HS := Lib.hid hsk
        have NE := HCne.out
        have KP := Lib.hid (show ∀ wx, Kept (fun k => blk (some ⟨ga, 0, none⟩) ≠ some k) wr wx → (Kept (fun k => blk (some ⟨ga, 0, none⟩) ≠ some k) wr wx ∧ wx.cell? ⟨bw, 0, none⟩ = some (.slice (some ⟨ga, 0, none⟩) (q + 1) c) ∧ wx.cell? ⟨bn, 0, none⟩ = some (.int .i64 (n : Int)) ∧ wx.cell? ⟨bk, 0, none⟩ = some (.int .i64 (K : Int))) from
          fun wx h => ⟨h, h.cell c1 (fun e => (NE _ e).1 rfl), h.cell c2 (fun e => (NE _ e).2.1 rfl), h.cell c3 (fun e => (NE _ e).2.2 rfl)⟩)
        clear hsk hlen NE
        go_upto_region 8 with fail
        go_cut [55] from 6 to 60 (fun v wx => Made wr K n (some ⟨ga, 0, none⟩) (q + 1) c L g v wx)
        case first =>
          go_region_held3 (fun wx => Kept (fun k => blk (some ⟨ga, 0, none⟩) ≠ some k) wr wx ∧ wx.cell? ⟨bw, 0, none⟩ = some (.slice (some ⟨ga, 0, none⟩) (q + 1) c) ∧ wx.cell? ⟨bn, 0, none⟩ = some (.int .i64 (n : Int)) ∧ wx.cell? ⟨bk, 0, none⟩ = some (.int .i64 (K : Int)))
            (first | assumption | exact KP.out _ (Kept.drew _ _) | exact KP.out _ (Kept.trans (And.left (by assumption)) (Kept.alloc _ _ _)) | exact KP.out _ (Kept.trans (And.left (by assumption)) (Kept.drew _ _)) | exact KP.out _ (((Kept.trans (And.left (by assumption)) (Kept.alloc _ _ _)).trans (Kept.alloc _ _ _)).trans (Kept.alloc _ _ _)))
            (first
              | ((refine stepX (base := 0) (A := some ⟨ga, 0, none⟩) (n := (q + 1)) (c := c) (L := L) (y := (g : Int)) rfl (.tmp 51) (.tmp 53) (by rfl) (by rfl) (by repeat (first | with_reducible exact hAo | with_reducible apply Own.drew | with_reducible apply Own.alloc)) (by rfl) (by rfl) (by first | (rw [World.cell?_alloc_at _ _ _ _ rfl]; rfl) | (simp; done)) hg64 hcaplt (Nat.zero_le _) ?_)
                 intro A1 c5 w2 hown2 hb2 hg2 hl2
                 have ha2 := hl2.imp id (fun e => And.intro (show ∀ k, blk A1 = some k → wr.heap.size ≤ k from fun k hk => by rw [e.1] at hk; cases hk; exact Kept.size (And.left (by assumption))) e.2)
                 have k2 := KP.out w2 (Kept.next (by exact And.left (by assumption)) (Kept.of_grown hg2 (fun k h e => h e)) (fun _ _ h => h)))
              | ((go_at_call 16; (with_reducible refine (line_begun _ _ _ _ _ _).mono ?_); rintro e wz ⟨rfl, rfl⟩)))
          all_goals
            go_wp2_with fail
            go_meet
            case rel => exact made_of (And.left k2) hown2 ha2 rfl
        case rest =>
          obtain ⟨A', c', s, rfl, hC2, hs1, hs2, hk2, hA2⟩ := hcut
          have HC2 := Lib.hid hC2
          have HK2 := Lib.hid hk2
          have HA2 := Lib.hid hA2
          clear hC2 hk2 hA2 c1 c2 c3
          go_wp2_with fail
          refine wpIn_wide (n := 0).1 ?_
          refine wp_range (hand := false) (T := bgn K d (L ++ [(g : Int)])) rfl (enters_of Tryd.func30 (by kernel_rfl) rfl) (HIH.out (L ++ [(g : Int)]) A' ((q + 1) + 1) c' (s + 2) (s + 1) s (by have := HD.out; omega) (in40_snoc H40.out (by omega))) (innU U W)
            (fun k hk => ?_) (fun W' hb => HC2.out.below hb) (inn_away HM.out HAW.out HU.out hs1 hs2 HC2.out HA2.out)
            (fun q w' => J (bgnTo K d L g ++ q) w' ∧ Boxed w' W.heap.size 35 (.func (.yield l) #[] #[])) (fun c q w' => c = .ret ∧ Jx (bgnTo K d L g ++ q) w') ?_ ?_ (inn_start HM.out HAW.out hJ HK2.out) (fun _ _ _ _ h1 h2 => own_put h1 h2) ?_ ?_ ?_
          · have := HM.out.size
            have := HK2.out.size
            rcases hk with hk | hk
            · have := HU.out k hk; omega
            · omega
          · exact fun q a b hs hk => ⟨hJ _ _ _ hs.1 (hk.mono fun k _ hu => .inl hu), hk.heap hs.2 (.inr rfl)⟩
          · exact fun c0 q a b hs hk => ⟨hs.1, hJx _ _ _ hs.2 (hk.mono fun k _ hu => .inl hu)⟩
          · intro l2 pre B nB cB LB W5 hl2 hBU hpre
            have hpreT : (bgnTo K d L g ++ pre) ++ [LB] <+: bgn K (d + 1) L := by
              rw [List.append_assoc]
              refine ((List.prefix_append_right_inj _).2 hpre).trans ?_
              rw [← bgnTo_more HS.out]
              exact bgnTo_pre K d L (by omega)
            have HPT := Lib.hid hpreT
            clear hpreT hpre
            gi_wp2
            refine ⟨trivial, fun W2 hz2 ⟨hj2, hy2⟩ hB2 => ?_⟩
            have c4 := hy2.cell
            obtain ⟨fn, tmps, assign, body, hy, hRr⟩ := YieldAt.inRound (l' := l2) (HR.out (bgnTo K d L g ++ pre) B nB cB LB W2 hj2 hB2 (fun k hk hu => hBU k hk (.inl hu)) HPT.out)
            gi_wp2
            refine ⟨rfl, hRr.mono ?_⟩
            rintro e W3 ⟨hh, hk⟩
            have hyb3 : Boxed W3 W.heap.size 35 (.func (.yield l) #[] #[]) := hk.heap hy2 ⟨fun hu => Nat.lt_irrefl _ (HU.out _ hu), fun h => by cases h⟩
            have hk3 : Kept (fun k => ¬innU U W k ∧ (false = true → blk B ≠ some k)) W2 W3 := hk.mono fun k _ h => ⟨fun hu => h.1 (.inl hu), h.2⟩
            clear hy hRr hk
            rcases hh with ⟨rfl, hJ3⟩ | ⟨rfl, hx3⟩
            · gi_wp2
              exact ⟨hk3, by rw [← List.append_assoc]; exact hJ3, hyb3⟩
            · gi_wp2
              exact ⟨hk3, rfl, by rw [← List.append_assoc]; exact hx3⟩
          · intro W4 hI4 hk4 hf4 hD4
            have hmid := inn_next HM.out HAW.out HU.out HK2.out.size HK2.out (fun k hk => (HC2.out.own.lt k hk).2) HA2.out HS.out hI4 hk4 hf4 hD4
            have HM4 := Lib.hid hmid
            clear hmid hI4 hk4 hf4 hD4
            go_wp2_with fail
            refine ⟨⟨g + 1, wc.heap.size :: Ds, by omega, HM4.out, _, _, _, _, _, _, _, _, _, _, _, _, _, _, _, _, _, _, _, _, _, _, _, _, _, _, _, _, _, _, _, _, _, _, _, _, _, _, _, _, _, _, _, _, _, _, _, _, _, _, _, _, _, _, _, rfl⟩, ?_⟩
            simp [intOf]; omega
          · intro cd q0 W4 hq4 hI4 hk4 hf4 hD4
            obtain ⟨rfl, hx4⟩ := hI4
            obtain ⟨h1, h2, h3, h4⟩ := inn_after HM.out HAW.out HU.out HK2.out.size HK2.out (fun k hk => (HC2.out.own.lt k hk).2) HA2.out hk4 hf4 hD4
            have hpreT : bgnTo K d L g ++ q0 <+: bgn K (d + 1) L := by
              refine ((List.prefix_append_right_inj _).2 hq4).trans ?_
              rw [← bgnTo_more HS.out]
              exact bgnTo_pre K d L (by omega)
            have HX := Lib.hid (show bgn K (d + 1) L = bgn K (d + 1) L ∧ Jx (bgnTo K d L g ++ q0) W4 from ⟨rfl, hx4⟩)
            have HPT := Lib.hid hpreT
            clear hpreT hq4 hx4 hk4 hf4 hD4
            refine wpIn_wide.2 ?_
            go_wp2_with fail
            exact call_end (Ds := wc.heap.size :: Ds) HU.out hJ hJx (.inr ⟨_, HPT.out, HX.out.2⟩) h2 h1.own h3 h4
    · have hgk : g = K + 1 := by omega
      have i0 : ¬ (g : Int) ≤ (K : Int) := by omega
      have c3 := hM.cap.hk.cell
      have HM := Lib.hid hM
      clear hM
      go_wp2_with fail
      have hj := HM.out.j
      rw [hgk, bgnTo_all] at hj
      exact call_end HU.out hJ hJx (.inl hj) HM.out.kept HM.out.cap.own HM.out.nodup HM.out.marks
/-- What begun returns gives the words in order, at every beginning. -/
theorem begun_seq (K n : Nat) (hK : K ≤ 40) (hn : n ≤ 400) : ∀ (d : Nat) (L : List Int) (A : Option Addr) (m c bw bn bk : Nat), m + d = n → (∀ x ∈ L, 0 ≤ x ∧ x ≤ 40) →
    Seq Tryd.prog 30 (caps bw bn bk) false (bgn K d L) (fun W => Capt W K n A m c bw bn bk L) (Away A bw bn bk) (fun k => blk A ≠ some k) (fun W => Own W 0 A m c L) := by
  intro d
  induction d with
  | zero =>
    intro L A m c bw bn bk hmd h40
    obtain rfl : m = n := by omega
    exact begun_zero K m hn L A c bw bn bk h40
  | succ d ih =>
    intro L A m c bw bn bk hmd h40
    exact begun_succ K n d hK hn L A m c bw bn bk hmd h40 ih
end Go.Proofs.YtpdkonpnhalecaaDoor
