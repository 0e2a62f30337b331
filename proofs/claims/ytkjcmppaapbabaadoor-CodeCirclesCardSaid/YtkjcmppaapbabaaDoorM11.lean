/-
  Contracts: the program's below, between. Conditions: the diagram of a well-formed code; bounds.
-/
import Derived.Test.YtkjcmppaapbabaaDoorM10
import Derived.Test.YtkjcmppaapbabaaDoorOwnP
namespace Go.Proofs.YtkjcmppaapbabaaDoor
open Go.RowKit
set_option maxRecDepth 100000 in
set_option maxHeartbeats 3200000 in
theorem dia_below (base p k : Nat) (A : Option Addr) (n c : Nat) (L : List Lt) (b g2 g3 g4 g6 : Nat) (s : List Bool) (P C ids : List Int) (w : World) (h : DiaF w base p k A n c L b g2 g3 g4 g6 s P C ids) :
    Calls Tryd.prog 81 #[.pointer (some ⟨p, 0, none⟩)] w fun e w' => ∃ g s', e = .returned (.slice (some ⟨g, 0, none⟩) n n) ∧ OwnB w' w.heap.size g n s' ∧ (∀ j, j < n → sat s' j = !dwn L (j + 1)) ∧ Below w.heap.size w w' := by
  have hn400 := h.small
  have hLn := Lib.hid h.lets.len
  have hnle : n ≤ 17592186044416 := by omega
  have c1 := h.ranks.dia.c1
  go_enter Tryd.func81, Tryd.ntmps81
  go_wp2_with (at_make; refine makeBW rfl _ _ rfl n _ rfl rfl rfl hnle (Nat.le_refl _) ?_; intro ws hs0 hbs0 hzs; have e1 := (h.next hbs0).ranks.dia.c1)
  go_loopw [4, 5, 6, 20] (fun v4 _ _ v20 wr => ∃ (i : Nat) (s' : List Bool), i ≤ n ∧ v20 = .int .i64 i ∧ v4 = .bool (!dwn L i) ∧ OwnB wr w.heap.size w.heap.size n s' ∧ Below w.heap.size w wr ∧ Hid (∀ j, j < i → sat s' j = !dwn L (j + 1))) (fun _ _ _ v20 _ => n - (intOf v20).toNat)
  case atStart => exact ⟨0, List.replicate n false, Nat.zero_le _, rfl, rfl, hs0, hbs0, Lib.hid (fun j hj => by omega)⟩
  case round =>
    obtain ⟨i, s', hi, rfl, rfl, hs, hbw, HS⟩ := hrel
    clear hs0 hbs0 c1 e1
    have hF := h.next hbw
    have d1 := hF.ranks.dia.c1
    have d2 := hF.ranks.dia.c2
    by_cases hlt : i < n
    · obtain ⟨gg, o, rfl, hgl, hx, _⟩ := hF.lets.at_ hlt
      obtain ⟨x0, x1, x2, x3, x4, x5⟩ := hx
      have i0 : (0 : Int) ≤ (i : Int) := by omega
      have i1 : (i : Int) < (n : Int) := by omega
      have hcs := hF.ranks.down.cell hlt
      have l2 := hF.ranks.down.lt
      have lp := hF.ranks.dia.lt
      have lw := hs.lt
      have hfz := hs.frozen i
      have hcz := hs.cell hlt
      have hs1 : ∀ v, v = (!dwn L (i + 1)) → Hid (∀ j, j < i + 1 → sat (s'.set i v) j = !dwn L (j + 1)) := fun v hv => Lib.hid (fun j hj => by
        unfold sat
        by_cases e : i = j
        · subst e
          rw [List.getElem?_set_self (by rw [hs.len]; exact hlt), hv]; rfl
        · rw [List.getElem?_set_ne e]
          exact HS.out j (by omega))
      have HS1 := Lib.hid hs1
      clear hs1
      by_cases hp : (la L i).kind = 1
      · have hp1 := isP_t hp
        have q6 : ((la L i).kind == 1) = true := by simpa using hp
        rw [hF.ranks.downs i hp1] at hcs
        have hval := dwn_step hp1
        have HV := Lib.hid (show dwn L i = !dwn L (i + 1) by rw [hval]; simp)
        clear hp hp1 hF hval
        go_wp2_with fail
        go_roundw
        case rel => exact ⟨i + 1, s'.set i (dwn L i), by omega, by go_num, by rw [HV.out], (hs.stored i _).alloc _, (hbw.setCell (p := ⟨w.heap.size, i, none⟩) (Nat.le_refl _) _).alloc (by simp; exact hbw.size) _, HS1.out _ HV.out⟩
        case measure => simp [intOf]; omega
      · have hp1 := isP_f hp
        have q6 : ((la L i).kind == 1) = false := by simpa using hp
        have hval := dwn_stay hp1
        have HV := Lib.hid (show (!dwn L i) = !dwn L (i + 1) by rw [hval])
        clear hp hp1 hF hval
        go_wp2_with fail
        go_roundw
        case rel => exact ⟨i + 1, s'.set i (!dwn L i), by omega, by go_num, by rw [HV.out], (hs.stored i _).alloc _, (hbw.setCell (p := ⟨w.heap.size, i, none⟩) (Nat.le_refl _) _).alloc (by simp; exact hbw.size) _, HS1.out _ HV.out⟩
        case measure => simp [intOf]; omega
    · obtain rfl : n = i := by omega
      go_wp2_with fail
      go_ret
      exact ⟨_, s', rfl, hs, HS.out, hbw⟩
theorem plInfo : (Tryd.prog.info? 50).map (fun i => (i.zero, i.size, i.bytes)) = some (some (.agg #[.int .i64 0, .int .i64 0]), 2, 16) := by kernel_rfl
/-- 'append(places, p)'. -/
theorem pushQ {w : World} {ops : Array Oper} {rest : List Oper} {o : Oper} {a : Act} {Q' : Exit → Act → World → Prop} (hgd : o.guard = none) (s x : Operand)
    (ho : o.op = .call { callee := .builtin .append, args := #[s, x], argTypes := #[36, 36] })
    {base : Nat} {A : Option Addr} {n c : Nat} {Q : List Plc} (hst : OwnQ w base A n c Q) (q : Plc) (hq : PlOk q) (hs : a.eval s = .slice A n c)
    (H : Nat) (hH : w.heap.size = H) (hx : a.eval x = .slice (some ⟨H, 0, none⟩) 1 1) (N : Nat) (hN : n + 1 = N) (hn : N ≤ 1000000) (hbase : base ≤ w.heap.size)
    (h : ∀ A' c' w', OwnQ w' base A' N c' (Q ++ [q]) → w.grownBy w' (blk A) → (∀ k, blk A' = some k → blk A = some k ∨ w.heap.size < k) → wpList Tryd.prog ops Q' rest (a.put o.dst (.slice A' N c')) w') :
    wpList Tryd.prog ops Q' (o :: rest) a (w.alloc (.cells #[.int .i64 q.gate, .int .i64 q.left] 50)) := by
  subst hH
  obtain ⟨i0, hi, hz0, hz1, hz2⟩ := info_parts plInfo
  refine appR hgd s x 36 ho 50 i0 _ 2 16 Tryd.underlying36 hi hz0 hz1 hz2 rfl (by decide) (hst.row.alloc _) (Src.new (m := 1) (cs := [.int .i64 q.gate, .int .i64 q.left]) rfl)
    (by intro u hu; simp at hu; rcases hu with rfl | rfl <;> rfl) hs hx N hN (by unfold maxLen; omega) (by omega) (by simp; omega) ?_
  intro A' c' w' h1 h2 h3 _
  refine h A' c' w' ⟨by rw [List.flatMap_append]; exact h1, fun y hy => ?_⟩ (only_trans (World.grownBy_alloc w _ _) h2) (fun k hk => ?_)
  · rcases List.mem_append.1 hy with hy | hy
    · exact hst.fits y hy
    · simp at hy; subst hy; exact hq
  · rcases h3 k hk with h | h
    · exact .inl h
    · right; simp at h; omega
theorem betwP_step {g r tg tr : Int} (h : g < tg) : betwP g r tg tr = ⟨g, r⟩ :: betwP (g + 1) 0 tg tr := by
  unfold betwP
  rw [if_pos h]
  by_cases h2 : g + 1 < tg
  · rw [if_pos h2, upto_cons (show g < tg - 1 by omega)]; rfl
  · rw [if_neg h2, upto_none (by omega)]; rfl
theorem betwP_end {g r tg tr : Int} (h : ¬g < tg) : betwP g r tg tr = [⟨tg, tr⟩] := by unfold betwP; rw [if_neg h]
theorem OwnQ.kept {w w' : World} {base : Nat} {A : Option Addr} {n c : Nat} {Q : List Plc} {row : Option Nat} (h : OwnQ w base A n c Q) (hg : w.grownBy w' row) (hne : blk A = none ∨ blk A ≠ row) : OwnQ w' base A n c Q := ⟨h.row.kept hg hne, h.fits⟩
theorem buildQ1 (g r : Int) (w : World) : (Instr.buildSlice 36 1 #[(0, .agg #[.int .i64 g, .int .i64 r])]).run Tryd.prog w = .ok (.slice (some ⟨w.heap.size, 0, none⟩) 1 1) (w.alloc (.cells #[.int .i64 g, .int .i64 r] 50)) := by
  obtain ⟨i0, hi, hz0, hz1, hz2⟩ := info_parts plInfo
  refine run_buildSlice w _ _ 1 _ _ i0 _ Tryd.underlying36 hi hz0 (by rw [hz1]; omega) (by rw [hz1]; omega) ?_
  rw [hz1]
  kernel_rfl
theorem build_place1 (g : Int) (w : World) : (Instr.build 50 #[(0, .int .i64 g)]).run Tryd.prog w = .ok (.agg #[.int .i64 g, .int .i64 0]) w := run_build w _ _ _ (by kernel_rfl)
theorem build_place2 (g r : Int) (w : World) : (Instr.build 50 #[(0, .int .i64 g), (1, .int .i64 r)]).run Tryd.prog w = .ok (.agg #[.int .i64 g, .int .i64 r]) w := run_build w _ _ _ (by kernel_rfl)
theorem build_place0 (w : World) : (Instr.build 50 #[]).run Tryd.prog w = .ok (.agg #[.int .i64 0, .int .i64 0]) w := run_build w _ _ _ (by kernel_rfl)
def cellI (w : World) (g : Nat) : Int := match w.cell? ⟨g, 0, none⟩ with | some (.int _ z) => z | _ => 0
theorem cellI_of {w : World} {g : Nat} {z : Int} (h : w.cell? ⟨g, 0, none⟩ = some (.int .i64 z)) : cellI w g = z := by unfold cellI; rw [h]
/-- Two own slices that share no block. -/
def Apart (A B : Option Addr) : Prop := ∀ k, blk A = some k → blk B ≠ some k
def BetwPost (base : Nat) (w : World) (Q : List Plc) (F : List Int) (e : Ending) (w' : World) : Prop :=
  ∃ A' n' c' B' m' d', e = .returned (.tuple #[.slice A' n' c', .slice B' m' d']) ∧ OwnQ w' base A' n' c' Q ∧ Own w' base B' m' d' F ∧ Apart A' B' ∧ Below base w w'
set_option maxRecDepth 100000 in
set_option maxHeartbeats 3200000 in
theorem code_between (g r tg tr : Int) (base : Nat) (A B : Option Addr) (n c m d : Nat) (Q : List Plc) (F : List Int) (w : World) (hQ : OwnQ w base A n c Q) (hF : Own w base B m d F) (hg0 : 0 ≤ g) (hg1 : g ≤ 100) (ht0 : 0 ≤ tg) (ht1 : tg ≤ 100) (hr : I64 r) (htr : I64 tr)
    (hn : n ≤ 900000) (hm : m ≤ 900000) (hap : Apart A B) (hbase : base ≤ w.heap.size) :
    Calls Tryd.prog 156 #[.agg #[.int .i64 g, .int .i64 r], .agg #[.int .i64 tg, .int .i64 tr], .slice A n c, .slice B m d] w (BetwPost base w (Q ++ betwP g r tg tr) (F ++ upto g tg)) := by
  have hbq := buildQ1
  have hbp := build_place1
  have HR := Lib.hid hr
  have HTR := Lib.hid htr
  clear hr htr
  obtain ⟨gt, hgt⟩ : ∃ gt : Nat, gt = (tg - g).toNat := ⟨_, rfl⟩
  have hQ1 := (hQ.alloc (.cells #[.int .i64 g, .int .i64 r] 50)).alloc (.cells #[.int .i64 tg, .int .i64 tr] 50)
  have hF1 := (hF.alloc (.cells #[.int .i64 g, .int .i64 r] 50)).alloc (.cells #[.int .i64 tg, .int .i64 tr] 50)
  have hB1 := (Blk.new w 50 #[.int .i64 g, .int .i64 r]).alloc (.cells #[.int .i64 tg, .int .i64 tr] 50)
  have hB2 : Blk ((w.alloc (.cells #[.int .i64 g, .int .i64 r] 50)).alloc (.cells #[.int .i64 tg, .int .i64 tr] 50)) (w.heap.size + 1) 50 #[.int .i64 tg, .int .i64 tr] := heap_alloc2_new w _ _
  have hb1 : Below base w ((w.alloc (.cells #[.int .i64 g, .int .i64 r] 50)).alloc (.cells #[.int .i64 tg, .int .i64 tr] 50)) := ((Below.refl _ _).alloc hbase _).alloc (by simp; omega) _
  have hA0 : ∀ k, blk A = some k → k < w.heap.size := fun k hk => (hQ.row.lt k hk).2
  have hB0 : ∀ k, blk B = some k → k < w.heap.size := fun k hk => (hF.lt k hk).2
  go_enter Tryd.func156, Tryd.ntmps156
  go_wp2_with fail
  generalize (w.alloc (.cells #[.int .i64 g, .int .i64 r] 50)).alloc (.cells #[.int .i64 tg, .int .i64 tr] 50) = ws at hQ1 hF1 hB1 hB2 hb1 ⊢
  go_loopw [2, 3] (fun v2 v3 wr => ∃ (γ ρ : Int) (At Bt : Option Addr) (nt ct mt dt : Nat) (Qt : List Plc) (Ft : List Int), v2 = .slice At nt ct ∧ v3 = .slice Bt mt dt ∧ Blk wr w.heap.size 50 #[.int .i64 γ, .int .i64 ρ] ∧ Blk wr (w.heap.size + 1) 50 #[.int .i64 tg, .int .i64 tr] ∧ OwnQ wr base At nt ct Qt ∧ Own wr base Bt mt dt Ft ∧ Apart At Bt ∧
      (∀ k, blk At = some k → k ≠ w.heap.size ∧ k ≠ w.heap.size + 1) ∧ (∀ k, blk Bt = some k → k ≠ w.heap.size ∧ k ≠ w.heap.size + 1) ∧ Below base w wr ∧ 0 ≤ γ ∧ γ ≤ 100 ∧ I64 ρ ∧ nt + (tg - γ).toNat ≤ n + gt ∧ mt + (tg - γ).toNat ≤ m + gt ∧ Hid (Qt ++ betwP γ ρ tg tr = Q ++ betwP g r tg tr ∧ Ft ++ upto γ tg = F ++ upto g tg)) (fun _ _ wr => (tg - cellI wr w.heap.size).toNat)
  case atStart => exact ⟨g, r, A, B, n, c, m, d, Q, F, rfl, rfl, hB1, hB2, hQ1, hF1, hap, fun k hk => by have := hA0 k hk; omega, fun k hk => by have := hB0 k hk; omega, hb1, hg0, hg1, HR.out, by omega, by omega, Lib.hid ⟨rfl, rfl⟩⟩
  case round =>
    obtain ⟨γ, ρ, At, Bt, nt, ct, mt, dt, Qt, Ft, rfl, rfl, hBa, hBb, hQt, hFt, hapt, hAf, hBf, hbw, hγ0, hγ1, hρ, hnt, hmt, HE⟩ := hrel
    clear hQ1 hF1 hB1 hB2 hb1
    have x0 : wr.cell? ⟨w.heap.size, 0, none⟩ = some (.int .i64 γ) := (hBa.cell 0).trans rfl
    have x1 : wr.cell? ⟨w.heap.size, 1, none⟩ = some (.int .i64 ρ) := (hBa.cell 1).trans rfl
    have y0 : wr.cell? ⟨w.heap.size + 1, 0, none⟩ = some (.int .i64 tg) := (hBb.cell 0).trans rfl
    have y1 : wr.cell? ⟨w.heap.size + 1, 1, none⟩ = some (.int .i64 tr) := (hBb.cell 1).trans rfl
    have hsz := hbw.size
    have l1 := hBa.lt
    have l2 := hBb.lt
    have HGT := Lib.hid hgt
    by_cases hlt : γ < tg
    · have hE1 := HE.out
      rw [betwP_step hlt, upto_cons hlt] at hE1
      have HE1 := Lib.hid (show (Qt ++ [⟨γ, ρ⟩]) ++ betwP (γ + 1) 0 tg tr = Q ++ betwP g r tg tr ∧ (Ft ++ [γ + 1]) ++ upto (γ + 1) tg = F ++ upto g tg by simpa using hE1)
      have hok : PlOk ⟨γ, ρ⟩ := ⟨⟨by simp only []; omega, by simp only []; omega⟩, hρ⟩
      have hm0 := cellI_of x0
      clear HE hE1
      go_wp2_with (first
        | (at_builtin; refine pushQ rfl _ _ rfl hQt ⟨γ, ρ⟩ hok rfl wr.heap.size rfl rfl (nt + 1) rfl (by omega) (by omega) ?_
           intro A2 c2 w2 hQ2 hg2 ha2
           have hBa2 := hBa.grown hg2 (fun e => absurd rfl (hAf _ e.symm).1)
           have hBb2 := hBb.grown hg2 (fun e => absurd rfl (hAf _ e.symm).2)
           have hF2 := hFt.kept hg2 (by
             cases hb : blk Bt with
             | none => exact .inl rfl
             | some q => exact .inr (fun e => hapt q e.symm hb))
           have z0 : w2.cell? ⟨w.heap.size, 0, none⟩ = some (.int .i64 γ) := (hBa2.cell 0).trans rfl
           have z1 : w2.cell? ⟨w.heap.size, 1, none⟩ = some (.int .i64 ρ) := (hBa2.cell 1).trans rfl
           have zf0 := hBa2.frozen 0
           have zf1 := hBa2.frozen 1
           have hsz2 := hg2.size
           have hne : ∀ k, blk A2 = some k → k ≠ w.heap.size ∧ k ≠ w.heap.size + 1 ∧ k < w2.heap.size ∧ blk Bt ≠ some k := fun k hk => by
             have hk2 := (hQ2.row.lt k hk).2
             rcases ha2 k hk with e | e
             · exact ⟨(hAf k e).1, (hAf k e).2, hk2, hapt k e⟩
             · refine ⟨by omega, by omega, hk2, fun eb => ?_⟩
               have := (hFt.lt k eb).2
               omega
           have gS : w2.grownBy ((w2.setCell ⟨w.heap.size, 0, none⟩ (.int .i64 (γ + 1))).setCell ⟨w.heap.size, 1, none⟩ (.int .i64 0)) (some w.heap.size) := only_setCell (only_setCell (World.grownBy.refl _ _) (p := ⟨w.heap.size, 0, none⟩) (.inl rfl) _) (p := ⟨w.heap.size, 1, none⟩) (.inl rfl) _
           have hF4 := hF2.kept gS (by
             cases hb : blk Bt with
             | none => exact .inl rfl
             | some q => exact .inr (fun e => (hBf q hb).1 (by simpa using e)))
           have hQ4 := hQ2.kept gS (by
             cases hb : blk A2 with
             | none => exact .inl rfl
             | some q => exact .inr (fun e => (hne q hb).1 (by simpa using e)))
           have hBa4 : Blk ((w2.setCell ⟨w.heap.size, 0, none⟩ (.int .i64 (γ + 1))).setCell ⟨w.heap.size, 1, none⟩ (.int .i64 0)) w.heap.size 50 #[.int .i64 (γ + 1), .int .i64 0] := (hBa2.set_ 0 _).set_ 1 _
           have hBb4 : Blk ((w2.setCell ⟨w.heap.size, 0, none⟩ (.int .i64 (γ + 1))).setCell ⟨w.heap.size, 1, none⟩ (.int .i64 0)) (w.heap.size + 1) 50 #[.int .i64 tg, .int .i64 tr] := (hBb2.far (by simp) _).far (by simp) _
           have HS4 : Hid (((w2.setCell ⟨w.heap.size, 0, none⟩ (.int .i64 (γ + 1))).setCell ⟨w.heap.size, 1, none⟩ (.int .i64 0)).heap.size = w2.heap.size) := Lib.hid (by simp)
           have hbS : Below base w ((w2.setCell ⟨w.heap.size, 0, none⟩ (.int .i64 (γ + 1))).setCell ⟨w.heap.size, 1, none⟩ (.int .i64 0)) := ((hbw.trans ((Below.refl _ _).grown hg2 (by omega) (fun k hk => (hQt.row.lt k hk).1))).setCell (p := ⟨w.heap.size, 0, none⟩) hbase _).setCell (p := ⟨w.heap.size, 1, none⟩) hbase _
           have HNE := Lib.hid hne
           clear hne gS hF2 hQ2 hg2 ha2 hBa2 hBb2)
        | (at_builtin; refine app1m rfl _ _ rfl hF4 (γ + 1) rfl w2.heap.size HS4.out rfl ⟨by omega, by omega⟩ (by omega) (by rw [HS4.out]; omega) ?_
           intro B3 d3 w3 hF3 hb3 hg3 hb3'))
      have hg3' := only_trans (World.grownBy_alloc _ _ _) hg3
      have hQ3 := hQ4.kept hg3' (by
        cases hb : blk A2 with
        | none => exact .inl rfl
        | some q => exact .inr (fun e => (HNE.out q hb).2.2.2 e.symm))
      have hBa3 := hBa4.grown hg3' (fun e => absurd rfl (hBf _ e.symm).1)
      have hBb3 := hBb4.grown hg3' (fun e => absurd rfl (hBf _ e.symm).2)
      have hB3 : ∀ k, blk B3 = some k → blk Bt = some k ∨ k = w2.heap.size + 1 := fun k hk => by
        rcases hb3' with e | e
        · exact .inl (by rw [← e]; exact hk)
        · rw [hk, HS4.out] at e
          exact .inr (by simpa using e)
      have hm3 := cellI_of (w := w3) (g := w.heap.size) (z := γ + 1) ((hBa3.cell 0).trans rfl)
      have hap3 : Apart A2 B3 := fun k hk e => by
        have := HNE.out k hk
        rcases hB3 k e with e | e
        · exact this.2.2.2 e
        · omega
      have hAf3 : ∀ k, blk A2 = some k → k ≠ w.heap.size ∧ k ≠ w.heap.size + 1 := fun k hk => ⟨(HNE.out k hk).1, (HNE.out k hk).2.1⟩
      have hBf3 : ∀ k, blk B3 = some k → k ≠ w.heap.size ∧ k ≠ w.heap.size + 1 := fun k hk => by
        rcases hB3 k hk with e | e
        · exact hBf k e
        · omega
      have hbw3 := hbS.trans hb3
      clear hg3 hg3' hb3 hb3' hQ4 hF4 hBa4 hBb4 hbS hB3
      go_wp2_with fail
      go_roundw
      case rel => exact ⟨γ + 1, 0, A2, B3, nt + 1, c2, mt + 1, d3, _, _, rfl, rfl, hBa3, hBb3, hQ3, hF3, hap3, hAf3, hBf3, hbw3, by omega, by omega, ⟨by omega, by omega⟩, by omega, by omega, HE1⟩
      case measure => simp only [hm3, hm0]; omega
    · have hE1 := HE.out
      rw [betwP_end hlt, upto_none (by omega)] at hE1
      have HE1 := Lib.hid hE1
      have hok : PlOk ⟨tg, tr⟩ := ⟨⟨by simp only []; omega, by simp only []; omega⟩, HTR.out⟩
      clear HE hE1
      go_wp2_with (at_builtin; refine pushQ rfl _ _ rfl hQt ⟨tg, tr⟩ hok rfl wr.heap.size rfl rfl (nt + 1) rfl (by omega) (by omega) ?_; intro A2 c2 w2 hQ2 hg2 ha2)
      have hF2 := hFt.kept hg2 (by
        cases hb : blk Bt with
        | none => exact .inl rfl
        | some q => exact .inr (fun e => hapt q e.symm hb))
      have hap2 : Apart A2 Bt := fun k hk e => by
        rcases ha2 k hk with h | h
        · exact hapt k h e
        · have := (hFt.lt k e).2
          omega
      have hb2 := hbw.trans ((Below.refl _ _).grown hg2 (by omega) (fun k hk => (hQt.row.lt k hk).1))
      rw [HE1.out.1] at hQ2
      rw [show Ft = F ++ upto g tg by rw [← HE1.out.2, List.append_nil]] at hF2
      go_wp2_with fail
      go_ret2
      exact ⟨A2, nt + 1, c2, Bt, mt, dt, rfl, hQ2, hF2, hap2, hb2⟩
end Go.Proofs.YtkjcmppaapbabaaDoor
