/-
  Contracts: the document's span, turned. Conditions: bounds; own places.
  Contract: the document's piece of the axis. Conditions: the letters of a valid code read; its axis reads.
  Contract: the document's Faces. Conditions: the letters of a valid code read.
  Contract: the document's SameFaces of two lists of the same faces. Conditions: both read.
-/
import Derived.Test.YtkjcmppaapbabaaDoorJM
import Derived.Test.YtkjcmppaapbabaaDoorJX
import Derived.Test.YtkjcmppaapbabaaDoorJD
import Derived.Deep.DeepCutAuto
import Derived.Deep.RegionHeld3
import Derived.Test.YtkjcmppaapbabaaDoorJL
import Derived.Test.YtkjcmppaapbabaaDoorJB
import Derived.Test.YtkjcmppaapbabaaDoorKD
import Derived.Laws.Cover2
namespace Go.Proofs.YtkjcmppaapbabaaDoor
section
open Go.RowKit
theorem OwnQ.one {w : World} {base g : Nat} {a b : Int} (h : Blk w g 50 #[.int .i64 a, .int .i64 b]) (hb : base ≤ g) (hok : PlOk ⟨a, b⟩) : OwnQ w base (some ⟨g, 0, none⟩) 1 1 [⟨a, b⟩] := by
  refine ⟨⟨rfl, Nat.le_refl _, fun e => (by cases e), fun ad ha => ?_⟩, fun x hx => by simp at hx; subst hx; exact hok⟩
  injection ha with ha
  subst ha
  have hc : ∀ j, w.cell? ⟨g, 0 + j, none⟩ = ([(⟨a, b⟩ : Plc)].flatMap plC)[j]? := fun j => by rw [Nat.zero_add, h.cell]; simp [plC]
  refine ⟨rfl, hb, h.lt, fun j u hu => by rw [hc, hu], fun j hj => ⟨?_, ?_⟩⟩
  · rw [hc, List.getElem?_eq_getElem (by simp [plC]; omega)]; rfl
  · exact h.frozen _
theorem OwnQ.at_ {w : World} {base : Nat} {A : Option Addr} {n c j : Nat} {Q : List Plc} (h : OwnQ w base A n c Q) (hj : j < n) :
    ∃ g o q, A = some ⟨g, o, none⟩ ∧ Q[j]? = some q ∧ PlOk q ∧ w.cell? ⟨g, o + j * 2, none⟩ = some (.int .i64 q.gate) ∧ w.cell? ⟨g, o + j * 2 + 1, none⟩ = some (.int .i64 q.left) := by
  obtain ⟨g, o, rfl, _, _⟩ := h.row.form (by omega)
  have hq : Q[j]? = some (Q[j]'(by rw [h.len]; exact hj)) := List.getElem?_eq_getElem _
  exact ⟨g, o, _, rfl, hq, h.fits _ (List.getElem_mem _), (h.cell hq).1, (h.cell hq).2⟩
/-- 'append(places, more...)', in the text's order. -/
theorem appQ {w : World} {ops : Array Oper} {rest : List Oper} {o : Oper} {a : Act} {Q' : Exit → Act → World → Prop} (hgd : o.guard = none) (s x : Operand)
    (ho : o.op = .call { callee := .builtin .append, args := #[s, x], argTypes := #[36, 36] })
    {base base2 : Nat} {A : Option Addr} {n c : Nat} {Q : List Plc} {B : Option Addr} {m d : Nat} {M : List Plc} (hQ : OwnQ w base A n c Q) (hM : OwnQ w base2 B m d M) (hs : a.eval s = .slice A n c) (hx : a.eval x = .slice B m d)
    (N : Nat) (hN : n + m = N) (hn : N ≤ 1000000) (hbase : base ≤ w.heap.size)
    (h : ∀ A' c' w', OwnQ w' base A' N c' (Q ++ M) → w.grownBy w' (blk A) → (∀ k, blk A' = some k → blk A = some k ∨ w.heap.size ≤ k) → wpList Tryd.prog ops Q' rest (a.put o.dst (.slice A' N c')) w') :
    wpList Tryd.prog ops Q' (o :: rest) a w := by
  obtain ⟨i0, hi, hz0, hz1, hz2⟩ := info_parts plInfo
  refine appR hgd s x 36 ho 50 i0 _ 2 16 Tryd.underlying36 hi hz0 hz1 hz2 rfl (by decide) hQ.row hM.row.src
    (by
      intro u hu
      obtain ⟨q, _, hq⟩ := List.mem_flatMap.1 hu
      simp [plC] at hq
      rcases hq with rfl | rfl <;> rfl) hs hx N hN (by unfold maxLen; omega) (by omega) hbase ?_
  intro A' c' w' h1 h2 h3 _
  refine h A' c' w' ⟨by rw [List.flatMap_append]; exact h1, fun y hy => ?_⟩ h2 h3
  rcases List.mem_append.1 hy with hy | hy
  · exact hQ.fits y hy
  · exact hM.fits y hy
set_option maxHeartbeats 1600000 in
theorem doc_span (g r t : Int) (w : World) (hg0 : 0 ≤ g) (hg1 : g ≤ 100) (_ht0 : 0 ≤ t) (ht1 : t ≤ 100) (hr : I64 r) :
    Calls Tryd.prog 128 #[.int .i64 g, .int .i64 r, .int .i64 t] w (BetwPost w.heap.size w (spanP g r t) (upto g t)) := by
  have hbq := buildQ1
  have hbp1 := build_place1
  have hbp2 := build_place2
  have HR := Lib.hid hr
  clear hr
  have hQ0 : OwnQ (w.alloc (.cells #[.int .i64 g, .int .i64 r] 50)) w.heap.size (some ⟨w.heap.size, 0, none⟩) 1 1 [⟨g, r⟩] := OwnQ.one (Blk.new w _ _) (Nat.le_refl _) ⟨⟨by simp only []; omega, by simp only []; omega⟩, HR.out⟩
  have hb0 : Below w.heap.size w (w.alloc (.cells #[.int .i64 g, .int .i64 r] 50)) := (Below.refl _ _).alloc (Nat.le_refl _) _
  have q0 : IntKind.i64.wrap (g + 1) = g + 1 := IntWalk.i64_in _ (by omega)
  go_enter Tryd.func128, Tryd.ntmps128
  go_wp2_with fail
  generalize w.alloc (.cells #[.int .i64 g, .int .i64 r] 50) = ws at hQ0 hb0 ⊢
  go_loopw [8, 9, 10] (fun v8 v9 v10 wr => ∃ (γ : Int) (At Bt : Option Addr) (nt ct mt dt : Nat) (Qt : List Plc) (Ft : List Int), v8 = .slice At nt ct ∧ v9 = .slice Bt mt dt ∧ v10 = .int .i64 (γ + 1) ∧ OwnQ wr w.heap.size At nt ct Qt ∧ Own wr w.heap.size Bt mt dt Ft ∧ Apart At Bt ∧
      Below w.heap.size w wr ∧ 0 ≤ γ ∧ γ ≤ 100 ∧ nt + (t - γ).toNat ≤ 200 ∧ mt + (t - γ).toNat ≤ 200 ∧ Hid (Qt ++ flatPl (upto γ t) = spanP g r t ∧ Ft ++ upto γ t = upto g t)) (fun _ _ v10 _ => (t + 1 - intOf v10).toNat)
  case atStart => exact ⟨g, _, none, 1, 1, 0, 0, _, [], rfl, rfl, rfl, hQ0, Own.nil _ _, (fun k _ e => by cases e), hb0, hg0, hg1, by omega, by omega, Lib.hid ⟨rfl, rfl⟩⟩
  case round =>
    obtain ⟨γ, At, Bt, nt, ct, mt, dt, Qt, Ft, rfl, rfl, rfl, hQt, hFt, hapt, hbw, hγ0, hγ1, hnt, hmt, HE⟩ := hrel
    clear hQ0 hb0 q0
    have hsz := hbw.size
    by_cases hlt : γ < t
    · have hE1 := HE.out
      rw [upto_cons hlt] at hE1
      have HE1 := Lib.hid (show (Qt ++ [⟨γ + 1, 0⟩]) ++ flatPl (upto (γ + 1) t) = spanP g r t ∧ (Ft ++ [γ + 1]) ++ upto (γ + 1) t = upto g t by simpa [flatPl] using hE1)
      have hok : PlOk ⟨γ + 1, 0⟩ := ⟨⟨by simp only []; omega, by simp only []; omega⟩, ⟨by simp only []; omega, by simp only []; omega⟩⟩
      have i1 : γ + 1 ≤ t := by omega
      have i2 : IntKind.i64.wrap (γ + 1 + 1) = γ + 1 + 1 := IntWalk.i64_in _ (by omega)
      clear HE hE1
      go_wp2_with (first
        | (at_builtin; refine pushQ rfl _ _ rfl hQt ⟨γ + 1, 0⟩ hok rfl wr.heap.size rfl rfl (nt + 1) rfl (by omega) (by omega) ?_
           intro A2 c2 w2 hQ2 hg2 ha2
           have hF2 := hFt.kept hg2 (by
             cases hb : blk Bt with
             | none => exact .inl rfl
             | some q => exact .inr (fun e => hapt q e.symm hb))
           have hsz2 := hg2.size
           have hb2 := hbw.trans ((Below.refl _ _).grown hg2 hsz (fun k hk => (hQt.row.lt k hk).1))
           have hne : ∀ k, blk A2 = some k → k < w2.heap.size ∧ blk Bt ≠ some k := fun k hk => by
             refine ⟨(hQ2.row.lt k hk).2, ?_⟩
             rcases ha2 k hk with e | e
             · exact hapt k e
             · intro eb
               have := (hFt.lt k eb).2
               omega
           have HNE := Lib.hid hne
           clear hne hg2 ha2)
        | (at_builtin; refine app1m rfl _ _ rfl hF2 (γ + 1) rfl w2.heap.size rfl rfl ⟨by omega, by omega⟩ (by omega) (by omega) ?_
           intro B3 d3 w3 hF3 hb3 hg3 hb3'))
      have hg3' := only_trans (World.grownBy_alloc _ _ _) hg3
      have hQ3 := hQ2.kept hg3' (by
        cases hb : blk A2 with
        | none => exact .inl rfl
        | some q => exact .inr (fun e => (HNE.out q hb).2 e.symm))
      have hap3 : Apart A2 B3 := fun k hk eb => by
        rcases hb3' with e | e
        · exact (HNE.out k hk).2 (by rw [← e]; exact eb)
        · have h1 := (HNE.out k hk).1
          rw [eb] at e
          injection e with e
          omega
      have hb4 := hb2.trans hb3
      clear hQt hFt hapt hbw hQ2 hF2 hg3 hg3' hb3 hb3' hb2 HNE
      go_wp2_with fail
      go_roundw
      case rel => exact ⟨γ + 1, A2, B3, nt + 1, c2, mt + 1, d3, _, _, rfl, rfl, by go_num, hQ3, hF3, hap3, hb4, by omega, by omega, by omega, by omega, HE1⟩
      case measure => simp [intOf]; omega
    · have i1 : decide (γ + 1 ≤ t) = false := by simp; omega
      have hE := HE.out
      rw [upto_none (by omega)] at hE
      have hE1 : Qt = spanP g r t := by simpa [flatPl] using hE.1
      have hE2 : Ft = upto g t := by simpa using hE.2
      rw [hE1] at hQt
      rw [hE2] at hFt
      clear HE hE hE1 hE2
      go_wp2_with fail
      go_ret2
      exact ⟨At, nt, ct, Bt, mt, dt, rfl, hQt, hFt, hapt, hbw⟩
theorem revDropQ (Q : List Plc) (k : Nat) (x : Plc) (hk : k < Q.length) (hx : Q[Q.length - 1 - k]? = some x) : (Q.drop (Q.length - (k + 1))).reverse = (Q.drop (Q.length - k)).reverse ++ [x] := by
  have h1 : Q.length - (k + 1) < Q.length := by omega
  rw [List.drop_eq_getElem_cons h1, List.reverse_cons]
  have e : Q.length - (k + 1) + 1 = Q.length - k := by omega
  rw [e]
  rw [show Q.length - 1 - k = Q.length - (k + 1) by omega, List.getElem?_eq_getElem h1] at hx
  rw [Option.some.inj hx]
set_option maxHeartbeats 1600000 in
theorem doc_turned (base : Nat) (A : Option Addr) (n c : Nat) (Q : List Plc) (w : World) (hQ : OwnQ w base A n c Q) (hn : n ≤ 1000) :
    Calls Tryd.prog 85 #[.slice A n c] w fun e w' => ∃ A' c', e = .returned (.slice A' n c') ∧ OwnQ w' w.heap.size A' n c' Q.reverse ∧ Below w.heap.size w w' := by
  have hbq := buildQ1
  have HL := Lib.hid hQ.len
  go_enter Tryd.func85, Tryd.ntmps85
  go_wp2_with fail
  go_loopw [3, 4] (fun v i wr => ∃ (k : Nat) (B : Option Addr) (d : Nat) (P : List Plc), k ≤ n ∧ i = .int .i64 ((n : Int) - 1 - k) ∧ v = .slice B k d ∧ OwnQ wr w.heap.size B k d P ∧ Below w.heap.size w wr ∧ Hid (P = (Q.drop (n - k)).reverse)) (fun _ i _ => (intOf i + 1).toNat)
  case atStart => exact ⟨0, none, 0, [], Nat.zero_le _, by go_num, rfl, OwnQ.nil _ _, Below.refl _ _, by unfold Hid; rw [List.drop_of_length_le (by rw [HL.out]; omega)]; rfl⟩
  case round =>
    obtain ⟨k, B, d, P, hk, rfl, rfl, hown, hb, HP⟩ := hrel
    by_cases hlt : k < n
    · obtain ⟨j, hj⟩ : ∃ j : Nat, (n : Int) - 1 - k = j := ⟨n - 1 - k, by omega⟩
      obtain ⟨g, o, q, rfl, hq, hqok, hc0, hc1⟩ := (hQ.next hb).at_ (show j < n by omega)
      have HP' : Hid (P ++ [q] = (Q.drop (n - (k + 1))).reverse) := by
        have hl := HL.out
        unfold Hid; subst hl; rw [HP.out]
        exact (revDropQ Q k q (by omega) (by rw [← hq]; congr 1; omega)).symm
      have HQ := Lib.hid hq
      rw [hj]
      have hj2 : (j : Int) + k + 1 ≤ n := by omega
      have hj3 : (n : Int) ≤ j + k + 1 := by omega
      have hj4 : (0 : Int) ≤ (j : Int) := by omega
      have hj5 : (j : Int) < (n : Int) := by omega
      have hsz := hb.size
      clear hj hq HP
      go_wp2_with (at_builtin; refine pushQ rfl _ _ rfl hown q hqok rfl wr.heap.size rfl rfl (k + 1) rfl (by omega) (by omega) ?_; intro A2 c2 w2 hQ2 hg2 _)
      have hb2 := hb.trans ((Below.refl _ _).grown hg2 hsz (fun k hk => (hown.row.lt k hk).1))
      clear hown hb hg2 hc0 hc1
      go_wp2_with fail
      go_roundw
      case rel => exact ⟨k + 1, A2, c2, _, by omega, by go_num, rfl, hQ2, hb2, HP'⟩
      case measure => simp [intOf] <;> omega
    · have hkn : k = n := by omega
      have i1 : decide ((0 : Int) ≤ (n : Int) - 1 - (k : Int)) = false := by simp; omega
      have hP : P = Q.reverse := by rw [HP.out, hkn, Nat.sub_self, List.drop_zero]
      rw [hP] at hown
      have HKN := Lib.hid hkn
      clear HP hP hkn
      go_wp2_with fail
      go_ret
      have hkn := HKN.out
      subst hkn
      exact ⟨_, _, rfl, hown, hb⟩
end

section
open Go.RowKit
theorem Ints.cellX {w : World} {ad : Addr} {n k : Nat} {x : Int} {L : List Int} (h : Ints w (some ad) n L) (hx : L[k]? = some x) : w.cell? (ad.add k) = some (.int .i64 x) := by
  have hk : k < n := by rw [← h.len]; exact (List.getElem?_eq_some_iff.1 hx).1
  obtain ⟨x', h1, _, _, h4⟩ := h.also hk
  rw [h1.out] at hx
  rw [h4, Option.some.inj hx]
theorem Ints.blkLt {w : World} {ad : Addr} {n : Nat} {L : List Int} (h : Ints w (some ad) n L) (hn : 0 < n) : ad.block < w.heap.size := by
  obtain ⟨ad', e, hb, _⟩ := h.2.2.2 hn
  rw [Option.some.inj e]; exact hb
theorem spanP_len {g r t : Int} : (spanP g r t).length = 1 + (t - g).toNat := by simp [spanP, flatPl, upto_len]; omega
set_option maxRecDepth 100000 in
set_option maxHeartbeats 3200000 in
theorem doc_piece (K : Int) (j : Nat) (A B : Option Addr) (n c m cb : Nat) (L : List Lt) (w : World) (hA : Lets w A n L) (g : Good K L) (hB : Ints w B m (natI (axL L))) (hj : j < m) (hn : n ≤ 1000) (hK : K ≤ 40) :
    Calls Tryd.prog 84 #[.agg #[.int .i64 K, .slice A n c], .slice B m cb, .int .i64 j] w (BetwPost w.heap.size w (pieceP K L (axL L) j) (pieceF K L (axL L) j)) := by
  have hLn : L.length = n := hA.len
  have hm : m = (axL L).length := by have := hB.len; rw [natI_len] at this; exact this.symm
  have hml : m ≤ n := by rw [hm, axL_len, ← hLn]; exact pN_le L _
  have hbx := Boxed.refl w K A n c
  obtain ⟨t, ht⟩ : ∃ t, t = (j + 1) % m := ⟨_, rfl⟩
  have htm : t < m := by rw [ht]; exact Nat.mod_lt _ (by omega)
  have hx1 := ax_pass (L := L) (j := j) (by rw [← hm]; exact hj)
  have hx2 := ax_pass (L := L) (j := t) (by rw [← hm]; exact htm)
  obtain ⟨ad, _, rfl, _, _, _, _⟩ := hB.at_ hj
  have hlB := hB.blkLt (by omega)
  have cx := hB.cellX (natI_at (k := j) (by rw [← hm]; exact hj))
  have cy := hB.cellX (natI_at (k := t) (by rw [← hm]; exact htm))
  have hnx := fun hj1 : j + 1 < (axL L).length => g.next hj1
  have hhd := g.head_rank
  obtain ⟨v1, hv1⟩ : ∃ v1, v1 = xat (axL L) j := ⟨_, rfl⟩
  obtain ⟨v2, hv2⟩ : ∃ v2, v2 = xat (axL L) t := ⟨_, rfl⟩
  have hpP : Hid (pieceP K L (axL L) j = if j + 1 < m then spanP (la L v1).gate (la L v1).rank (la L v2).gate else spanP (la L v1).gate (la L v1).rank K ++ spanP 0 0 (la L v2).gate) := by
    unfold Hid pieceP; rw [← hm, ← ht, ← hv1, ← hv2]
  have hpF : Hid (pieceF K L (axL L) j = if j + 1 < m then upto (la L v1).gate (la L v2).gate else upto (la L v1).gate K ++ upto 0 (la L v2).gate) := by
    unfold Hid pieceF; rw [← hm, ← ht, ← hv1, ← hv2]
  rw [← hv1] at cx hx1
  rw [← hv2] at cy hx2
  rw [hLn] at hx1 hx2
  obtain ⟨gg, o, rfl, hgl, hl1, ho1⟩ := hA.at_ hx1.2
  obtain ⟨hl2, ho2⟩ := hA.also hx2.2
  obtain ⟨x0, x1, x2, x3, x4, x5⟩ := hl1
  obtain ⟨y0, y1, y2, y3, y4, y5⟩ := hl2
  have ga := g.gates _ (by rw [hLn]; exact hx1.2) hx1.1
  have gb := g.gates _ (by rw [hLn]; exact hx2.2) hx2.1
  have hK0 : 0 ≤ K := by omega
  have q3 : ((j : Int) + 1) % (m : Int) = (t : Int) := by rw [ht]; simp
  have q11 : ((j : Int) + 1).tmod (m : Int) = (t : Int) := by rw [Int.tmod_eq_emod_of_nonneg (by omega)]; exact q3
  have q16 : IntKind.i64.wrap ((j : Int) + 1) = (j : Int) + 1 := IntWalk.i64_in _ (by omega)
  have q17 : IntKind.i64.wrap (t : Int) = (t : Int) := IntWalk.i64_in _ (by omega)
  have q18 : (0 : Int) ≤ (j : Int) + 1 := by omega
  have q19 : ¬ (m : Int) = 0 := by omega
  have q20 : ¬ m = 0 := by omega
  have q22 : (j + 1) % m = t := ht.symm
  have q4 : (0 : Int) ≤ (t : Int) := by omega
  have q5 : (t : Int) < (m : Int) := by omega
  have q7 : (0 : Int) ≤ (j : Int) := by omega
  have q8 : (j : Int) < (m : Int) := by omega
  have v10 : (0 : Int) ≤ (v1 : Int) := by omega
  have v11 : (v1 : Int) < (n : Int) := by omega
  have v20 : (0 : Int) ≤ (v2 : Int) := by omega
  have v21 : (v2 : Int) < (n : Int) := by omega
  have HV1 := Lib.hid hv1
  have HV2 := Lib.hid hv2
  have HT := Lib.hid ht
  have HM := Lib.hid hm
  have HLn := Lib.hid hLn
  clear hv1 hv2 ht hm hLn hx1 hx2 hnx hhd
  go_enter Tryd.func84, Tryd.ntmps84
  go_wp2_with fail
  generalize hws : w.alloc (.cells #[.int .i64 K, .slice (some ⟨gg, o, none⟩) n c] 24) = ws at hbx ⊢
  go_upto_region 2 with fail
  have hbs := hbx.below
  have hsz := hbx.size
  have HS : ∀ wx, Below ws.heap.size ws wx → Below ws.heap.size ws wx ∧ wx.cell? ⟨w.heap.size, 1, none⟩ = some (.slice (some ⟨gg, o, none⟩) n c) ∧ wx.cell? (ad.add j) = some (.int .i64 v1) ∧ wx.cell? (ad.add t) = some (.int .i64 v2) ∧
      wx.cell? ⟨gg, o + v1 * 6, none⟩ = some (.int .i64 (la L v1).kind) ∧ wx.cell? ⟨gg, o + v1 * 6 + 1, none⟩ = some (.int .i64 (la L v1).gate) ∧ wx.cell? ⟨gg, o + v1 * 6 + 2, none⟩ = some (.int .i64 (la L v1).rank) ∧ wx.cell? ⟨gg, o + v1 * 6 + 3, none⟩ = some (.int .i64 (la L v1).id) ∧ wx.cell? ⟨gg, o + v1 * 6 + 4, none⟩ = some (.int .i64 (la L v1).sign) ∧ wx.cell? ⟨gg, o + v1 * 6 + 5, none⟩ = some (.bool (la L v1).over) ∧
      wx.cell? ⟨gg, o + v2 * 6, none⟩ = some (.int .i64 (la L v2).kind) ∧ wx.cell? ⟨gg, o + v2 * 6 + 1, none⟩ = some (.int .i64 (la L v2).gate) ∧ wx.cell? ⟨gg, o + v2 * 6 + 2, none⟩ = some (.int .i64 (la L v2).rank) ∧ wx.cell? ⟨gg, o + v2 * 6 + 3, none⟩ = some (.int .i64 (la L v2).id) ∧ wx.cell? ⟨gg, o + v2 * 6 + 4, none⟩ = some (.int .i64 (la L v2).sign) ∧ wx.cell? ⟨gg, o + v2 * 6 + 5, none⟩ = some (.bool (la L v2).over) :=
    fun wx hb0 => by
      have hb : Below w.heap.size w wx := hbs.trans (hb0.mono (by omega))
      exact ⟨hb0, (hb0.cell (by simp; omega)).trans hbx.c1, (hb.cell (by rw [block_of_add]; exact hlB)).trans cx, (hb.cell (by rw [block_of_add]; exact hlB)).trans cy, (hb.cell hgl).trans x0, (hb.cell hgl).trans x1, (hb.cell hgl).trans x2, (hb.cell hgl).trans x3, (hb.cell hgl).trans x4, (hb.cell hgl).trans x5, (hb.cell hgl).trans y0, (hb.cell hgl).trans y1, (hb.cell hgl).trans y2, (hb.cell hgl).trans y3, (hb.cell hgl).trans y4, (hb.cell hgl).trans y5⟩
  go_cut [8, 9] (fun va vb wz => ∃ (wx : World) (ba bb : Nat), wx = wz ∧ va = .pointer (some ⟨ba, 0, none⟩) ∧ vb = .pointer (some ⟨bb, 0, none⟩) ∧ Blk wx ba 46 (ltC (la L v1)).toArray ∧ Blk wx bb 46 (ltC (la L v2)).toArray ∧ Below ws.heap.size ws wx)
  case first =>
   go_region_held3 (fun wx => Below ws.heap.size ws wx ∧ wx.cell? ⟨w.heap.size, 1, none⟩ = some (.slice (some ⟨gg, o, none⟩) n c) ∧ wx.cell? (ad.add j) = some (.int .i64 v1) ∧ wx.cell? (ad.add t) = some (.int .i64 v2) ∧
      wx.cell? ⟨gg, o + v1 * 6, none⟩ = some (.int .i64 (la L v1).kind) ∧ wx.cell? ⟨gg, o + v1 * 6 + 1, none⟩ = some (.int .i64 (la L v1).gate) ∧ wx.cell? ⟨gg, o + v1 * 6 + 2, none⟩ = some (.int .i64 (la L v1).rank) ∧ wx.cell? ⟨gg, o + v1 * 6 + 3, none⟩ = some (.int .i64 (la L v1).id) ∧ wx.cell? ⟨gg, o + v1 * 6 + 4, none⟩ = some (.int .i64 (la L v1).sign) ∧ wx.cell? ⟨gg, o + v1 * 6 + 5, none⟩ = some (.bool (la L v1).over) ∧
      wx.cell? ⟨gg, o + v2 * 6, none⟩ = some (.int .i64 (la L v2).kind) ∧ wx.cell? ⟨gg, o + v2 * 6 + 1, none⟩ = some (.int .i64 (la L v2).gate) ∧ wx.cell? ⟨gg, o + v2 * 6 + 2, none⟩ = some (.int .i64 (la L v2).rank) ∧ wx.cell? ⟨gg, o + v2 * 6 + 3, none⟩ = some (.int .i64 (la L v2).id) ∧ wx.cell? ⟨gg, o + v2 * 6 + 4, none⟩ = some (.int .i64 (la L v2).sign) ∧ wx.cell? ⟨gg, o + v2 * 6 + 5, none⟩ = some (.bool (la L v2).over))
    (first | (refine HS _ ?_; repeat (first | with_reducible exact Below.refl _ _ | with_reducible apply Below.drew | ((with_reducible refine below_allocG ?_ ?_); focus (first | (simp; done) | (simp; omega))))))
    (fail)
   all_goals
    go_wp2_with fail
    go_meet
   case rel => exact ⟨_, ws.heap.size, ws.heap.size + 1, rfl, rfl, rfl, (Blk.new ws _ _).alloc _, heap_alloc2_new ws _ _, (((Below.refl _ _).alloc (Nat.le_refl _) _).alloc (by simp) _).drew⟩
   case rel => exact ⟨_, ws.heap.size + 1, ws.heap.size, rfl, rfl, rfl, heap_alloc2_new ws _ _, (Blk.new ws _ _).alloc _, (((Below.refl _ _).alloc (Nat.le_refl _) _).alloc (by simp) _).drew⟩
  case rest =>
    obtain ⟨wx, ba, bb, rfl, rfl, rfl, hBA, hBB, hbq⟩ := hcut
    have hb1 := hbx.more hbq
    have z0 := hb1.c0
    have a1 : wx.cell? ⟨ba, 1, none⟩ = some (.int .i64 (la L v1).gate) := (hBA.cell 1).trans rfl
    have a2 : wx.cell? ⟨ba, 2, none⟩ = some (.int .i64 (la L v1).rank) := (hBA.cell 2).trans rfl
    have b1 : wx.cell? ⟨bb, 1, none⟩ = some (.int .i64 (la L v2).gate) := (hBB.cell 1).trans rfl
    have hzx := hb1.size
    have lB := hBB.lt
    have HR1 := Lib.hid ho1.rank
    have hI0 : I64 (0 : Int) := ⟨by omega, by omega⟩
    clear HS cx cy x0 x1 x2 x3 x4 x5 y0 y1 y2 y3 y4 y5 hBA q3 q11 q16 q17 q22 ho1 ho2 hbs hbq hsz
    by_cases hjm : j + 1 < m
    · have q30 : (j : Int) < (m : Int) - 1 := by omega
      have hP := hpP.out
      have hF := hpF.out
      rw [if_pos hjm] at hP hF
      have HP := Lib.hid hP
      have HF := Lib.hid hF
      clear hP hF hpP hpF hBB
      go_wp2_with fail
      refine (doc_span _ _ _ _ ga.1 (by omega) gb.1 (by omega) HR1.out).mono ?_
      rintro e w2 ⟨A', n', c', B', m', d', rfl, hQ2, hF2, hap2, hb2⟩
      rw [← HP.out] at hQ2
      rw [← HF.out] at hF2
      have hb3 := (hb1.more hb2).below
      go_wp2_with fail
      go_ret2
      exact ⟨A', n', c', B', m', d', rfl, hQ2.mono (by omega), Own.mono hF2 (by omega), hap2, hb3⟩
    · have q30 : decide ((j : Int) < (m : Int) - 1) = false := by simp; omega
      have hP := hpP.out
      have hF := hpF.out
      rw [if_neg hjm] at hP hF
      have HP := Lib.hid hP
      have HF := Lib.hid hF
      clear hP hF hpP hpF
      go_wp2_with fail
      refine (doc_span _ _ K _ ga.1 (by omega) hK0 (by omega) HR1.out).mono ?_
      rintro e w2 ⟨A1, n1, c1, B1, m1, d1, rfl, hQ1, hF1, hap1, hb2⟩
      have b2 : w2.cell? ⟨bb, 1, none⟩ = some (.int .i64 (la L v2).gate) := ((hBB.below hb2 lB).cell 1).trans rfl
      have hlq := hQ1.len
      have hlf := hF1.len
      rw [spanP_len] at hlq
      rw [upto_len] at hlf
      have hn1 : n1 ≤ 101 := by omega
      have hm1 : m1 ≤ 101 := by omega
      have hb3 := hb1.more hb2
      have hsz2 := hb2.size
      clear a1 a2 b1 z0 hb1 hb2 hlq hlf
      go_wp2_with fail
      refine (doc_span 0 0 _ _ (by omega) (by omega) gb.1 (by omega) hI0).mono ?_
      rintro e w3 ⟨A2, n2, c2, B2, m2, d2, rfl, hQ2, hF2, hap2, hb4⟩
      have hlq := hQ2.len
      have hlf := hF2.len
      rw [spanP_len] at hlq
      rw [upto_len] at hlf
      have hn2 : n2 ≤ 101 := by omega
      have hm2 : m2 ≤ 101 := by omega
      have hQ1' := hQ1.next hb4
      have hF1' := hF1.below hb4
      have hb5 := hb3.more hb4
      have hsz3 := hb4.size
      have HA1 := Lib.hid (show ∀ q, blk A1 = some q → q < w2.heap.size from fun q hq => (hQ1.row.lt q hq).2)
      have HB1 := Lib.hid (show ∀ q, blk B1 = some q → q < w2.heap.size from fun q hq => (hF1.lt q hq).2)
      clear b2 hQ1 hF1 hb3 hb4 hlq hlf
      go_wp2_with (first
        | (at_builtin
           refine appQ rfl _ _ rfl hQ1' hQ2 rfl rfl (n1 + n2) rfl (by omega) (by omega) ?_
           intro A3 c3 w4 hQ3 hg3 hl3
           have hF2' := hF2.kept hg3 (ne_row fun q hq e => by have := (hF2.lt q hq).1; have := HA1.out q e; omega)
           have hF1'' := hF1'.kept hg3 (ne_row fun q hq e => hap1 q e hq)
           have hsz4 := hg3.size)
        | (at_builtin
           refine appS rfl _ _ rfl rfl hF1'' hF2'.ints rfl rfl (m1 + m2) rfl (by omega) (by omega) ?_
           intro B3 d3 w5 hF3 hb6 hg4 hl4))
      have hQ4 := hQ3.kept hg4 (ne_row fun q hq e => by
        rcases hl3 q hq with h | h
        · exact hap1 q h e
        · have := HB1.out q e
          omega)
      have hap3 : Apart A3 B3 := fun k hk eb => by
        have hk4 := (hQ3.row.lt k hk).2
        rcases hl4 with e | e
        · rw [e] at eb
          rcases hl3 k hk with h | h
          · exact hap1 k h eb
          · have := HB1.out k eb
            omega
        · rw [eb] at e
          injection e with e
          omega
      have hbz : Below w.heap.size w w5 := by
        have h1 : Below w.heap.size w3 w4 := (Below.refl _ _).grown hg3 (by omega) (fun k hk => by have := (hQ1'.row.lt k hk).1; omega)
        have h2 : Below w.heap.size w4 w5 := hb6.mono (by omega)
        exact hb5.below.trans (h1.trans h2)
      rw [← HP.out] at hQ4
      rw [← HF.out] at hF3
      clear hQ3 hg3 hl3 hg4 hl4 hb6 hQ1' hF1' hQ2 hF2 hF2' hF1''
      go_wp2_with fail
      go_ret2
      exact ⟨A3, n1 + n2, c3, B3, m1 + m2, d3, rfl, hQ4.mono (by omega), Own.mono hF3 (by omega), hap3, hbz⟩
end

section
open Go.RowKit
section
variable {w w' : World} {base fb : Nat} {f : Fc} {Ad Ap Af : Option Addr} {nd cd np cp nf cf : Nat}
theorem FaceM.c1 (h : FaceM w base fb f Ad Ap Af nd cd np cp nf cf) : w.cell? ⟨fb, 1, none⟩ = some (.slice Ad nd cd) := (h.bk.cell 1).trans rfl
theorem FaceM.c2 (h : FaceM w base fb f Ad Ap Af nd cd np cp nf cf) : w.cell? ⟨fb, 2, none⟩ = some (.slice Ap np cp) := (h.bk.cell 2).trans rfl
theorem FaceM.c3 (h : FaceM w base fb f Ad Ap Af nd cd np cp nf cf) : w.cell? ⟨fb, 3, none⟩ = some (.slice Af nf cf) := (h.bk.cell 3).trans rfl
theorem FaceM.c4 (h : FaceM w base fb f Ad Ap Af nd cd np cp nf cf) : w.cell? ⟨fb, 4, none⟩ = some (.bool f.outer) := (h.bk.cell 4).trans rfl
theorem FaceM.drew (h : FaceM w base fb f Ad Ap Af nd cd np cp nf cf) : FaceM w.drew base fb f Ad Ap Af nd cd np cp nf cf := h.next (Below.refl _ _).drew
theorem ne_fb {A : Option Addr} {g : Nat} (h : ∀ k, blk A = some k → g + 1 ≤ k) : blk A = none ∨ blk A ≠ some g := ne_some fun q hq => by have := h q hq; omega
/-- One dart more, stored. -/
theorem FaceM.dart {A3 : Option Addr} {c3 : Nat} {x : Int} (h : FaceM w (fb + 1) fb f Ad Ap Af nd cd np cp nf cf) (hle : fb + 1 ≤ w.heap.size) (hown : Own w' (fb + 1) A3 (nd + 1) c3 (f.darts ++ [x])) (hg : w.grownBy w' (blk Ad)) (hl : ∀ q, blk A3 = some q → blk Ad = some q ∨ w.heap.size ≤ q) :
    FaceM (w'.setCell ⟨fb, 1, none⟩ (.slice A3 (nd + 1) c3)) (fb + 1) fb { f with darts := f.darts ++ [x] } A3 Ap Af (nd + 1) c3 np cp nf cf ∧ Below fb w (w'.setCell ⟨fb, 1, none⟩ (.slice A3 (nd + 1) c3)) := by
  have g1 := only_setCell (World.grownBy.refl w' (some fb)) (p := ⟨fb, 1, none⟩) (.inl rfl) (.slice A3 (nd + 1) c3)
  have hp := h.places.kept hg (ne_row fun q hq e => h.dp q e hq)
  have hf := h.fingers.kept hg (ne_row fun q hq e => h.df q e hq)
  refine ⟨⟨(h.bk.grown hg (fun e => by have := (h.darts.lt _ e.symm).1; omega)).set_ 1 _, hown.kept g1 (ne_fb fun q hq => (hown.lt q hq).1), hp.kept g1 (ne_fb fun q hq => (hp.row.lt q hq).1), hf.kept g1 (ne_fb fun q hq => (hf.lt q hq).1), fun q hq e => ?_, fun q hq e => ?_, h.pf⟩, ?_⟩
  · rcases hl q hq with h1 | h1
    · exact h.dp q h1 e
    · have := (h.places.row.lt q e).2; omega
  · rcases hl q hq with h1 | h1
    · exact h.df q h1 e
    · have := (h.fingers.lt q e).2; omega
  · have hb : Below fb w w' := (Below.refl _ _).grown hg (by omega) (fun k hk => by have := (h.darts.lt k hk).1; omega)
    exact hb.setCell (p := ⟨fb, 1, none⟩) (Nat.le_refl _) _
/-- More places, stored. -/
theorem FaceM.place {A3 : Option Addr} {N c3 : Nat} {Q : List Plc} (h : FaceM w (fb + 1) fb f Ad Ap Af nd cd np cp nf cf) (hle : fb + 1 ≤ w.heap.size) (hown : OwnQ w' (fb + 1) A3 N c3 (f.places ++ Q)) (hg : w.grownBy w' (blk Ap)) (hl : ∀ q, blk A3 = some q → blk Ap = some q ∨ w.heap.size ≤ q) :
    FaceM (w'.setCell ⟨fb, 2, none⟩ (.slice A3 N c3)) (fb + 1) fb { f with places := f.places ++ Q } Ad A3 Af nd cd N c3 nf cf ∧ Below fb w (w'.setCell ⟨fb, 2, none⟩ (.slice A3 N c3)) := by
  have g1 := only_setCell (World.grownBy.refl w' (some fb)) (p := ⟨fb, 2, none⟩) (.inl rfl) (.slice A3 N c3)
  have hd := h.darts.kept hg (ne_row fun q hq e => h.dp q hq e)
  have hf := h.fingers.kept hg (ne_row fun q hq e => h.pf q e hq)
  refine ⟨⟨(h.bk.grown hg (fun e => by have := (h.places.row.lt _ e.symm).1; omega)).set_ 2 _, hd.kept g1 (ne_fb fun q hq => (hd.lt q hq).1), hown.kept g1 (ne_fb fun q hq => (hown.row.lt q hq).1), hf.kept g1 (ne_fb fun q hq => (hf.lt q hq).1), fun q hq e => ?_, h.df, fun q hq e => ?_⟩, ?_⟩
  · rcases hl q e with h1 | h1
    · exact h.dp q hq h1
    · have := (h.darts.lt q hq).2; omega
  · rcases hl q hq with h1 | h1
    · exact h.pf q h1 e
    · have := (h.fingers.lt q e).2; omega
  · have hb : Below fb w w' := (Below.refl _ _).grown hg (by omega) (fun k hk => by have := (h.places.row.lt k hk).1; omega)
    exact hb.setCell (p := ⟨fb, 2, none⟩) (Nat.le_refl _) _
/-- More fingers, stored. -/
theorem FaceM.finger {A3 : Option Addr} {N c3 : Nat} {Q : List Int} (h : FaceM w (fb + 1) fb f Ad Ap Af nd cd np cp nf cf) (hle : fb + 1 ≤ w.heap.size) (hown : Own w' (fb + 1) A3 N c3 (f.fingers ++ Q)) (hg : w.grownBy w' (blk Af)) (hl : ∀ q, blk A3 = some q → blk Af = some q ∨ w.heap.size ≤ q) :
    FaceM (w'.setCell ⟨fb, 3, none⟩ (.slice A3 N c3)) (fb + 1) fb { f with fingers := f.fingers ++ Q } Ad Ap A3 nd cd np cp N c3 ∧ Below fb w (w'.setCell ⟨fb, 3, none⟩ (.slice A3 N c3)) := by
  have g1 := only_setCell (World.grownBy.refl w' (some fb)) (p := ⟨fb, 3, none⟩) (.inl rfl) (.slice A3 N c3)
  have hd := h.darts.kept hg (ne_row fun q hq e => h.df q hq e)
  have hp := h.places.kept hg (ne_row fun q hq e => h.pf q hq e)
  refine ⟨⟨(h.bk.grown hg (fun e => by have := (h.fingers.lt _ e.symm).1; omega)).set_ 3 _, hd.kept g1 (ne_fb fun q hq => (hd.lt q hq).1), hp.kept g1 (ne_fb fun q hq => (hp.row.lt q hq).1), hown.kept g1 (ne_fb fun q hq => (hown.lt q hq).1), h.dp, fun q hq e => ?_, fun q hq e => ?_⟩, ?_⟩
  · rcases hl q e with h1 | h1
    · exact h.df q hq h1
    · have := (h.darts.lt q hq).2; omega
  · rcases hl q e with h1 | h1
    · exact h.pf q hq h1
    · have := (h.places.row.lt q hq).2; omega
  · have hb : Below fb w w' := (Below.refl _ _).grown hg (by omega) (fun k hk => by have := (h.fingers.lt k hk).1; omega)
    exact hb.setCell (p := ⟨fb, 3, none⟩) (Nat.le_refl _) _
/-- Whether it is the outer face, stored. -/
theorem FaceM.outer_ (h : FaceM w (fb + 1) fb f Ad Ap Af nd cd np cp nf cf) (o : Bool) : FaceM (w.setCell ⟨fb, 4, none⟩ (.bool o)) (fb + 1) fb { f with outer := o } Ad Ap Af nd cd np cp nf cf ∧ Below fb w (w.setCell ⟨fb, 4, none⟩ (.bool o)) := by
  have g1 := only_setCell (World.grownBy.refl w (some fb)) (p := ⟨fb, 4, none⟩) (.inl rfl) (.bool o)
  exact ⟨⟨h.bk.set_ 4 _, h.darts.kept g1 (ne_fb fun q hq => (h.darts.lt q hq).1), h.places.kept g1 (ne_fb fun q hq => (h.places.row.lt q hq).1), h.fingers.kept g1 (ne_fb fun q hq => (h.fingers.lt q hq).1), h.dp, h.df, h.pf⟩, (Below.refl _ _).setCell (p := ⟨fb, 4, none⟩) (Nat.le_refl _) _⟩
end
theorem flat_ge : ∀ {Ws : List (List Nat)}, (∀ W ∈ Ws, W ≠ []) → Ws.length ≤ Ws.flatten.length
  | [], _ => Nat.le_refl _
  | W :: Ws, h => by
    have h1 := flat_ge (fun X hX => h X (List.mem_cons_of_mem _ hX))
    have h2 : 0 < W.length := List.length_pos_iff.2 (h W (List.mem_cons_self ..))
    rw [List.flatten_cons, List.length_append, List.length_cons]
    omega
theorem flat_mem_ge : ∀ {Ws : List (List Nat)} {W : List Nat}, W ∈ Ws → W.length ≤ Ws.flatten.length
  | X :: Ws, W, h => by
    rw [List.flatten_cons, List.length_append]
    rcases List.mem_cons.1 h with rfl | h
    · omega
    · have := flat_mem_ge h; omega
theorem Good.walk_bounds {K : Int} {L : List Lt} (g : Good K L) : (walksL L).length ≤ dartsN L ∧ ∀ W ∈ walksL L, W.length ≤ dartsN L ∧ 0 < W.length ∧ xat W 0 < 2 * L.length ∧ ∀ y ∈ W, y < dartsN L := by
  have hf : (walksL L).flatten.length = dartsN L := by rw [g.perm.length_eq, List.length_range]
  have hp := g.parts.1
  refine ⟨by rw [← hf]; exact flat_ge fun W hW => (hp W hW).1, fun W hW => ⟨by rw [← hf]; exact flat_mem_ge hW, List.length_pos_iff.2 (hp W hW).1, g.head_lt hW, fun y hy => ((hp W hW).2.2 y hy).1⟩⟩
theorem Wks.at_ {w : World} {base : Nat} {A : Option Addr} {n c i : Nat} {vs : List SV} {Ws : List (List Int)} (h : Wks w base A n c vs Ws) (hi : i < n) :
    ∃ (g o : Nat) (v : SV) (W : List Int), A = some ⟨g, o, none⟩ ∧ Ws[i]? = some W ∧ Ints w v.A v.n W ∧ w.cell? ⟨g, o + i, none⟩ = some (.slice v.A v.n v.c) := by
  obtain ⟨g, o, rfl, _, _⟩ := h.row.form (by omega)
  have hv : vs[i]? = some (vs[i]'(by rw [h.vlen]; exact hi)) := List.getElem?_eq_getElem _
  have hF : Ws[i]? = some (Ws[i]'(by rw [h.len]; exact hi)) := List.getElem?_eq_getElem _
  generalize vs[i]'(by rw [h.vlen]; exact hi) = v at hv
  generalize Ws[i]'(by rw [h.len]; exact hi) = W at hF
  exact ⟨g, o, v, W, rfl, hF, (h.each i v W hv hF).1, h.row.cell (by rw [List.getElem?_map, hv]; rfl)⟩
theorem natI_mem {X : List Nat} {j : Nat} (hj : j < X.length) : xat X j ∈ X := by
  unfold xat
  rw [List.getElem?_eq_getElem hj]
  exact List.getElem_mem hj
theorem take_snoc {α : Type} {X : List α} {j : Nat} {x : α} (h : X[j]? = some x) : X.take (j + 1) = X.take j ++ [x] := by
  rw [List.take_add_one, h]; rfl
theorem FaceM.fresh {w : World} {fb x0 : Nat} {bd : Bool} {L : List Lt} (h : Blk w fb 38 #[.bool bd, .slice none 0 0, .slice none 0 0, .slice none 0 0, .bool false]) (hbd : bd = dwn L (x0 / 2 + 1)) : FaceM w (fb + 1) fb (fc0 L x0) none none none 0 0 0 0 0 0 :=
  ⟨by unfold fc0; rw [← hbd]; exact h, Own.nil _ _, OwnQ.nil _ _, Own.nil _ _, fun k hk => (by cases hk), fun k hk => (by cases hk), fun k hk => (by cases hk)⟩
theorem fcAdd_axis {K : Int} {L : List Lt} {X : List Nat} {f : Fc} {x n m j : Nat} {Qp : List Plc} {Fp : List Int} {ou : Bool} (hL : L.length = n) (hx : ¬x < 2 * n) (hj : j = (x - 2 * n) / 2) (hm : m = X.length) (hQ : Qp = if x % 2 = 1 then (pieceP K L X j).reverse else pieceP K L X j)
    (hF : Fp = if x % 2 = 1 then (pieceF K L X j).reverse else pieceF K L X j) (ho : ou = (f.outer || j == m - 1)) : fcAdd K L X f x = { f with places := f.places ++ Qp, fingers := f.fingers ++ Fp, outer := ou } := by
  unfold fcAdd
  rw [hL, if_neg hx, ← hj, ← hQ, ← hF, ho, hm]
set_option maxRecDepth 100000 in
set_option maxHeartbeats 6400000 in
theorem cref_Faces (K : Int) (A : Option Addr) (n c : Nat) (L : List Lt) (w : World) (hA : Lets w A n L) (g : Good K L) (hn60 : n ≤ 60) (hK : K ≤ 40) :
    Calls Tryd.prog 25 #[.agg #[.int .i64 K, .slice A n c]] w fun e w' => ∃ (A' : Option Addr) (n' c' : Nat) (vs : List FV), e = .returned (.slice A' n' c') ∧ Fcs w' w.heap.size A' n' c' vs (facesL K L) ∧ Below w.heap.size w w' := by
  have hLn := Lib.hid hA.len
  have hbx := Boxed.refl w K A n c
  have hbf := build_face1
  obtain ⟨m, hm⟩ : ∃ m, m = (axL L).length := ⟨_, rfl⟩
  obtain ⟨N, hN⟩ : ∃ N, N = (walksL L).length := ⟨_, rfl⟩
  have hmn : m ≤ n := by rw [hm, axL_len, hLn.out]; exact pN_le L n
  have hDn : dartsN L = 2 * n + 2 * m := by unfold dartsN; rw [hLn.out, hm]
  have hwb := g.walk_bounds
  rw [hDn, ← hN, hLn.out] at hwb
  have hN240 : N ≤ 240 := by have := hwb.1; omega
  have HWB := Lib.hid hwb.2
  have HM := Lib.hid hm
  have HN := Lib.hid hN
  clear hm hN hDn hwb
  go_enter Tryd.func25, Tryd.ntmps25
  go_wp2_with fail
  refine (ref_Axis K A n c L _ (hA.below hbx.below)).mono ?_
  rintro e w1 ⟨A1, c1, rfl, hown1, hb1⟩
  rw [← HM.out] at hown1 ⊢
  have hX := hown1.ints
  have hb1' := hbx.more hb1
  have k0 := hb1'.c0
  have k1 := hb1'.c1
  clear hown1 hb1 hbx
  go_wp2_with fail
  refine (ref_Walks K A n c L _ (hA.below hb1'.below) g (by omega)).mono ?_
  rintro e w2 ⟨A2, c2, vs2, rfl, hwk, hb2⟩
  rw [← HN.out] at hwk ⊢
  have hX2 := hX.below hb2
  have hbz := hb1'.more hb2
  have j0 := hbz.c0
  have j1 := hbz.c1
  clear k0 k1 hX hb2 hb1'
  go_wp2_with fail
  have hA2 := hA.below hbz.below
  clear j0 j1
  go_loopw [3, 7] (fun v3 v7 wr => ∃ (i : Nat) (A3 : Option Addr) (c3 : Nat) (vs : List FV) (Fs : List Fc), i ≤ N ∧ v7 = .int .i64 i ∧ v3 = .slice A3 i c3 ∧ Fcs wr w2.heap.size A3 i c3 vs Fs ∧ Below w2.heap.size w2 wr ∧ Hid (Fs = ((walksL L).take i).map (faceOf K L (axL L)))) (fun _ v7 _ => N - (intOf v7).toNat)
  case atStart => exact ⟨0, none, 0, [], [], Nat.zero_le _, rfl, rfl, Fcs.nil _ _, Below.refl _ _, rfl⟩
  case round =>
    obtain ⟨i, A3, c3, vs, Fs, hi, rfl, rfl, hfc, hbw, HF⟩ := hrel
    have hsz := hbw.size
    by_cases hlt : i < N
    · obtain ⟨g2, o2, v, W', rfl, hW', hIW, hcw⟩ := (hwk.below hbw).at_ hlt
      obtain ⟨W, hW⟩ : ∃ W, (walksL L)[i]? = some W := ⟨_, List.getElem?_eq_getElem (by rw [← HN.out]; exact hlt)⟩
      rw [List.getElem?_map, hW] at hW'
      obtain rfl : natI W = W' := by simpa using hW'
      have hWb := HWB.out W (List.mem_of_getElem? hW)
      have hHW := Lib.hid hW
      obtain ⟨q, hq⟩ : ∃ q, q = v.n := ⟨_, rfl⟩
      have hWq : W.length = q := by have := hIW.len; rw [natI_len] at this; omega
      obtain ⟨ad, _, hvA, _, _, _, _⟩ := hIW.at_ (show 0 < v.n by omega)
      rw [hvA] at hIW hcw
      rw [← hq] at hIW hcw
      obtain ⟨dc, hdc⟩ : ∃ dc, dc = v.c := ⟨_, rfl⟩
      rw [← hdc] at hcw
      obtain ⟨x0, hx0⟩ : ∃ x0, x0 = xat W 0 := ⟨_, rfl⟩
      have cw0 := hIW.cellX (natI_at (k := 0) (by omega))
      rw [← hx0] at cw0 hWb
      have cw1 : wr.cell? ad = some (.int .i64 x0) := by have := cw0; unfold Addr.add at this; simpa using this
      obtain ⟨e0, he0⟩ : ∃ e0, e0 = x0 / 2 := ⟨_, rfl⟩
      have hen : e0 < n := by omega
      have q1 : (x0 : Int) / 2 = (e0 : Int) := by omega
      have q2 : (0 : Int) ≤ (x0 : Int) := by omega
      have q3 : (0 : Int) < (q : Int) := by omega
      have q5 : IntKind.i64.wrap (e0 : Int) = (e0 : Int) := IntWalk.i64_in _ (by omega)
      have q4 : 0 < q := by omega
      have hbr := hbz.more (hbw)
      have u0 := hbr.c0
      have u1 := hbr.c1
      have HQ := Lib.hid hWq
      have HE0 := Lib.hid he0
      have HX0 := Lib.hid hx0
      have HWBW := Lib.hid hWb
      clear hq hdc hvA hW' hW hWq he0 hx0 hWb
      obtain ⟨bd, hbd⟩ : ∃ bd, bd = dwn L (e0 + 1) := ⟨_, rfl⟩
      have hBL := fun wx (h : Below wr.heap.size wr wx) => ref_Below K e0 A n c L wx (hA.below (hbr.more h).below) hen
      rw [← hbd] at hBL
      have HBL := Lib.hid hBL
      have HBD := Lib.hid hbd
      clear hbd hBL
      have a0 := (hbr.alloc (.cells #[.bool false, .slice none 0 0, .slice none 0 0, .slice none 0 0, .bool false] 38)).c0
      have a1 := (hbr.alloc (.cells #[.bool false, .slice none 0 0, .slice none 0 0, .slice none 0 0, .bool false] 38)).c1
      have aw : (wr.alloc (.cells #[.bool false, .slice none 0 0, .slice none 0 0, .slice none 0 0, .bool false] 38)).cell? ad = some (.int .i64 x0) := (((Below.refl wr.heap.size wr).alloc (Nat.le_refl _) _).cell (hIW.blkLt q4)).trans cw1
      go_upto_region 10 with fail
      go_cut [9] (fun v9 wz => ∃ fb : Nat, v9 = .pointer (some ⟨fb, 0, none⟩) ∧ wr.heap.size ≤ fb ∧ FaceM wz (fb + 1) fb (fc0 L x0) none none none 0 0 0 0 0 0 ∧ Below wr.heap.size wr wz)
      case first =>
        go_region_law (first
          | ((go_simp; go_at_call 31; refine (HBL.out _ (Below.refl _ _).drew).mono ?_; rintro e' wy ⟨rfl, hby⟩))
          | ((go_simp; go_at_call 31; refine (HBL.out _ ((Below.refl _ _).alloc (Nat.le_refl _) _).drew).mono ?_; rintro e' wy ⟨rfl, hby⟩)
             have hbk : Blk wy wr.heap.size 38 #[.bool false, .slice none 0 0, .slice none 0 0, .slice none 0 0, .bool false] := (Blk.new wr 38 #[.bool false, .slice none 0 0, .slice none 0 0, .slice none 0 0, .bool false]).drew.below hby (by simp)
             have d0 : wy.cell? ⟨wr.heap.size, 0, none⟩ = some (.bool false) := (hbk.cell 0).trans rfl
             have d1 : wy.cell? ⟨wr.heap.size, 1, none⟩ = some (.slice none 0 0) := (hbk.cell 1).trans rfl
             have d2 : wy.cell? ⟨wr.heap.size, 2, none⟩ = some (.slice none 0 0) := (hbk.cell 2).trans rfl
             have d3 : wy.cell? ⟨wr.heap.size, 3, none⟩ = some (.slice none 0 0) := (hbk.cell 3).trans rfl
             have d4 : wy.cell? ⟨wr.heap.size, 4, none⟩ = some (.bool false) := (hbk.cell 4).trans rfl
             have z0 := hbk.frozen 0
             have z1 := hbk.frozen 1
             have z2 := hbk.frozen 2
             have z3 := hbk.frozen 3
             have z4 := hbk.frozen 4))
        all_goals
          have hbd : bd = dwn L (x0 / 2 + 1) := by rw [HBD.out, HE0.out]
          have HBDX := Lib.hid hbd
          clear hbd
          go_wp2_with fail
          go_meet
        all_goals
          first
            | exact ⟨_, rfl, hby.size, FaceM.fresh (Blk.new _ _ _) HBDX.out, (below_chain (Below.refl wr.heap.size wr).drew hby (Nat.le_refl _)).alloc hby.size _⟩
            | exact ⟨_, rfl, Nat.le_refl _, FaceM.fresh (((((hbk.set_ 0 _).set_ 1 _).set_ 2 _).set_ 3 _).set_ 4 _) HBDX.out, (((((below_chain ((Below.refl wr.heap.size wr).alloc (Nat.le_refl _) _).drew hby (by simp)).setCell (p := ⟨wr.heap.size, 0, none⟩) (Nat.le_refl _) _).setCell (p := ⟨wr.heap.size, 1, none⟩) (Nat.le_refl _) _).setCell (p := ⟨wr.heap.size, 2, none⟩) (Nat.le_refl _) _).setCell (p := ⟨wr.heap.size, 3, none⟩) (Nat.le_refl _) _).setCell (p := ⟨wr.heap.size, 4, none⟩) (Nat.le_refl _) _⟩
      case rest =>
        obtain ⟨fb, rfl, hfb, hM0, hb0⟩ := hcut
        clear a0 a1 aw cw0 cw1 hcw u0 u1 q1 q2 q5 HBL
        go_wp2_with fail
        obtain ⟨wo, rfl⟩ : ∃ wo : World, wo = wr := ⟨_, rfl⟩
        go_loopw [10, 11, 12, 13] (fun v10 _ _ _ wi => ∃ (t : Nat) (f : Fc) (Ad Ap Af : Option Addr) (nd cd np cp nf cf : Nat), t ≤ q ∧ v10 = .int .i64 t ∧ FaceM wi (fb + 1) fb f Ad Ap Af nd cd np cp nf cf ∧ Below wo.heap.size wo wi ∧ nd ≤ t ∧ np ≤ 100 * t ∧ nf ≤ 100 * t ∧
          Hid (f = (W.take t).foldl (fcAdd K L (axL L)) (fc0 L x0))) (fun v10 _ _ _ _ => q - (intOf v10).toNat)
        case atStart => exact ⟨0, _, none, none, none, 0, 0, 0, 0, 0, 0, Nat.zero_le _, rfl, hM0, hb0, Nat.le_refl _, Nat.le_refl _, Nat.le_refl _, rfl⟩
        case round =>
          obtain ⟨t, f, Ad, Ap, Af, nd, cd, np, cp, nf, cf, ht, rfl, hM, hbi, hnd, hnp, hnf, HFD⟩ := hrel
          clear hM0 hb0
          have hq480 : q ≤ 240 := by have := HWBW.out.1; have := HQ.out; omega
          have hlb := hM.bk.lt
          have hbx := hbr.more hbi
          by_cases htq : t < q
          · obtain ⟨x, hx⟩ : ∃ x, x = xat W t := ⟨_, rfl⟩
            have hIx := hIW.below hbi
            have cx := hIx.cellX (natI_at (k := t) (by rw [HQ.out]; exact htq))
            rw [← hx] at cx
            have hxd : x < 2 * n + 2 * m := HWBW.out.2.2.2 x (by rw [hx]; exact natI_mem (by rw [HQ.out]; exact htq))
            have hfd : (W.take (t + 1)).foldl (fcAdd K L (axL L)) (fc0 L x0) = fcAdd K L (axL L) f x := by
              have : W[t]? = some x := by rw [hx]; unfold xat; rw [List.getElem?_eq_getElem (by rw [HQ.out]; exact htq)]; rfl
              rw [take_snoc this, List.foldl_append, ← HFD.out]; rfl
            have HFX := Lib.hid hfd
            have HX := Lib.hid hx
            have i0 : (0 : Int) ≤ (t : Int) := by omega
            have i1 : (t : Int) < (q : Int) := by omega
            have j0 : (0 : Int) ≤ (x : Int) := by omega
            clear hx hfd HFD
            by_cases hlt2 : x < 2 * n
            · have j1 : (x : Int) < 2 * (n : Int) := by omega
              have hfx := Lib.hid (show { f with darts := f.darts ++ [(x : Int)] } = (W.take (t + 1)).foldl (fcAdd K L (axL L)) (fc0 L x0) by rw [HFX.out]; exact (fcAdd_dart hLn.out hlt2).symm)
              have d1 := hM.c1
              have f1 := hM.bk.frozen 1
              have hx64 : I64 (x : Int) := ⟨by omega, by omega⟩
              go_upto_region 15 with fail
              go_region_law (first
                | ((refine stepS2 (base := fb + 1) (A := Ad) (n := nd) (c := cd) (L := f.darts) (B := some ⟨wr.heap.size, 0, none⟩) (m := 1) (d := 1) (M := [(x : Int)]) rfl (.tmp 53) (.tmp 58) (by rfl) (by rfl) (by rfl) (by rfl) (hM.drew.darts.alloc _) (Ints.one (w := wr.drew) hx64) (nd + 1) rfl (by omega) (by simp; omega) ?_)
                   intro A4 c4 w4 hown4 hb4 hg4 hl4
                   have hg4' : wr.grownBy w4 (blk Ad) := only_trans (only_alloc (only_drew (World.grownBy.refl wr _)) _) hg4
                   have kD := hM.dart (A3 := A4) (c3 := c4) (by omega) hown4 hg4' (fun k hk => by
                     rcases hl4 with e | e
                     · exact .inl (by rw [← e]; exact hk)
                     · rw [hk] at e
                       injection e with e
                       exact .inr (by simp at e; omega))
                   have kBk := hM.bk.grown hg4' (fun e => by have := (hM.darts.lt _ e.symm).1; omega)
                   have y1 : w4.cell? ⟨fb, 1, none⟩ = some (.slice Ad nd cd) := (kBk.cell 1).trans rfl
                   have y4 := kBk.frozen 1))
              all_goals
                have hb5 := hbi.trans (kD.2.mono hfb)
                have hM5 := kD.1
                rw [hfx.out] at hM5
                clear y1 y4 kBk kD hg4 hg4' hb4 hl4 hown4 hM hbi d1 f1
                go_wp2_with fail
                go_roundw
                case rel => exact ⟨t + 1, _, A4, Ap, Af, nd + 1, c4, np, cp, nf, cf, by omega, by go_num, hM5, hb5, by omega, by omega, by omega, rfl⟩
                case measure => simp [intOf]; omega
            · obtain ⟨j, hj⟩ : ∃ j, j = (x - 2 * n) / 2 := ⟨_, rfl⟩
              have hjm : j < m := by omega
              obtain ⟨Qp, hQp⟩ : ∃ Qp, Qp = (if x % 2 = 1 then (pieceP K L (axL L) j).reverse else pieceP K L (axL L) j) := ⟨_, rfl⟩
              obtain ⟨Fp, hFp⟩ : ∃ Fp, Fp = (if x % 2 = 1 then (pieceF K L (axL L) j).reverse else pieceF K L (axL L) j) := ⟨_, rfl⟩
              obtain ⟨ou, hou⟩ : ∃ ou, ou = (f.outer || j == m - 1) := ⟨_, rfl⟩
              have hfx := Lib.hid (show { f with places := f.places ++ Qp, fingers := f.fingers ++ Fp, outer := ou } = (W.take (t + 1)).foldl (fcAdd K L (axL L)) (fc0 L x0) by
                rw [HFX.out]; exact (fcAdd_axis hLn.out hlt2 hj HM.out hQp hFp hou).symm)
              have hlen := pieceP_len (K := K) (L := L) hK g (j := j) (by rw [← HM.out]; exact hjm)
              have j1 : decide ((x : Int) < 2 * (n : Int)) = false := by simp; omega
              have j2 : ((x : Int) - 2 * (n : Int)) / 2 = (j : Int) := by omega
              have j3 : ¬ (x : Int) < 2 * (n : Int) := by omega
              have HJ := Lib.hid hj
              have HQP := Lib.hid hQp
              have HFP := Lib.hid hFp
              have HOU := Lib.hid hou
              have HLEN := Lib.hid hlen
              have e0' := hbx.c0
              have e1' := hbx.c1
              clear hj hQp hFp hou hlen
              go_wp2_with fail
              refine (doc_piece K j A A1 n c m c1 L _ (hA.below hbx.below) g (hX2.below (hbw.trans (hbi.mono hsz))) hjm (by omega) hK).mono ?_
              rintro e w3 ⟨B1, n1, d1, B2, m1, d2, rfl, hQ1, hF1, hap1, hb3⟩
              have hn1 : n1 ≤ 100 := by have := hQ1.len; have := HLEN.out.1; omega
              have hm1 : m1 ≤ 100 := by have := hF1.len; have := HLEN.out.2; omega
              have hsz3 := hb3.size
              have cx3 := (hIx.below hb3).cellX (natI_at (k := t) (by rw [HQ.out]; exact htq))
              rw [← HX.out] at cx3
              clear e0' e1' cx
              go_upto_if 81 with fail
              go_cut [12, 13] (fun v12 v13 wv => ∃ (wz : World) (B1' B2' : Option Addr) (d1' d2' : Nat), wz = wv ∧ v12 = .slice B1' n1 d1' ∧ v13 = .slice B2' m1 d2' ∧ OwnQ wz wr.heap.size B1' n1 d1' Qp ∧ Own wz wr.heap.size B2' m1 d2' Fp ∧ Below wr.heap.size wr wz)
              case first =>
                by_cases hodd : x % 2 = 1
                · have q7 : ((x : Int) % 2 != 0) = true := by simp; omega
                  have hQe := HQP.out
                  have hFe := HFP.out
                  rw [if_pos hodd] at hQe hFe
                  have HQE := Lib.hid hQe
                  have HFE := Lib.hid hFe
                  clear hQe hFe hodd
                  go_wp2_with fail
                  refine (doc_turned _ B1 n1 d1 _ _ hQ1 (by omega)).mono ?_
                  rintro e w4 ⟨B3, d3, rfl, hQ2, hb4⟩
                  have hF2 := hF1.below hb4
                  have hsz4 := hb4.size
                  go_wp2_with fail
                  refine (ref_reverse B2 m1 d2 _ _ hF2.ints).mono ?_
                  rintro e w5 ⟨B4, d4, rfl, hF3, hb5⟩
                  have hQ3 := hQ2.next hb5
                  have hb6 := (below_chain hb3 hb4 (by omega)).trans (hb5.mono (by omega))
                  rw [← HQE.out] at hQ3
                  rw [← HFE.out] at hF3
                  clear hQ1 hF1 hQ2 hF2 hb3 hb4 hb5
                  go_wp2_with fail
                  go_meet
                  case rel => exact ⟨_, _, _, _, _, rfl, rfl, rfl, hQ3.mono (by omega), Own.mono hF3 (by omega), hb6⟩
                · have q7 : ((x : Int) % 2 != 0) = false := by simp; omega
                  have hQe := HQP.out
                  have hFe := HFP.out
                  rw [if_neg hodd] at hQe hFe
                  rw [← hQe] at hQ1
                  rw [← hFe] at hF1
                  clear hQe hFe hodd
                  go_wp2_with fail
                  go_meet
                  case rel => exact ⟨_, _, _, _, _, rfl, rfl, rfl, hQ1, hF1, hb3⟩
              case rest =>
                obtain ⟨wz, B1', B2', d1', d2', rfl, rfl, rfl, hQz, hFz, hbz'⟩ := hcut
                have HAPL := Lib.hid (show ∀ q, blk Ap = some q → q < wr.heap.size from fun q hq => (hM.places.row.lt q hq).2)
                have hMz := hM.next hbz'
                have hszz := hbz'.size
                have hbiz := hbi.trans (hbz'.mono hbi.size)
                have u2 := hMz.c2
                have u4 := hMz.bk.frozen 2
                clear hQ1 hF1 hb3 hM hbi hap1 cx3
                go_upto_region 21 with (first
                  | (at_builtin
                     refine appQ rfl _ _ rfl hMz.places hQz rfl rfl (np + n1) rfl (by omega) (by omega) ?_
                     intro A4 c4 w4 hQ4 hg4 hl4
                     have kP := hMz.place (by omega) hQ4 hg4 hl4
                     have kF := hFz.kept hg4 (ne_row fun q hq e => by have := (hFz.lt q hq).1; have := HAPL.out q e; omega)
                     have kF2 := kF.kept (only_setCell (World.grownBy.refl w4 (some fb)) (p := ⟨fb, 2, none⟩) (.inl rfl) (.slice A4 (np + n1) c4)) (ne_some fun q hq => by have := (hFz.lt q hq).1; omega)
                     have kBk := hMz.bk.grown hg4 (fun e => by have := (hMz.places.row.lt _ e.symm).1; omega)
                     have y2 : w4.cell? ⟨fb, 2, none⟩ = some (.slice Ap np cp) := (kBk.cell 2).trans rfl
                     have y5 := kBk.frozen 2
                     have y3 := kP.1.c3
                     have y6 := kP.1.bk.frozen 3
                     have ksz := kP.2.size)
                  | (at_builtin
                     refine appS rfl _ _ rfl rfl kP.1.fingers kF2.ints rfl rfl (nf + m1) rfl (by omega) (by omega) ?_
                     intro A5 c5 w5 hF5 hb5 hg5 hl5
                     have kQ := kP.1.finger (by omega) hF5 hg5 (fun k hk => by
                       rcases hl5 with e | e
                       · exact .inl (by rw [← e]; exact hk)
                       · rw [hk] at e
                         injection e with e
                         exact .inr (by omega))
                     have kBq := kP.1.bk.grown hg5 (fun e => by have := (kP.1.fingers.lt _ e.symm).1; omega)
                     have y7 : w5.cell? ⟨fb, 3, none⟩ = some (.slice Af nf cf) := (kBq.cell 3).trans rfl
                     have y8 := kBq.frozen 3))
                have hMq := kQ.1
                have hbq := hbiz.trans (kP.2.mono hfb) |>.trans (kQ.2.mono hfb)
                have z4 : (w5.setCell ⟨fb, 3, none⟩ (.slice A5 (nf + m1) c5)).cell? ⟨fb, 4, none⟩ = some (.bool f.outer) := (hMq.bk.cell 4).trans rfl
                have z5 := hMq.bk.frozen 4
                clear kP kQ kBq kBk kF kF2 y2 y5 y3 y6 y7 y8 hg4 hg5 hb5 hl4 hl5 hQ4 hF5 hMz hbiz hQz hFz hbz' u2 u4 ksz
                generalize w5.setCell ⟨fb, 3, none⟩ (.slice A5 (nf + m1) c5) = wy at hMq hbq z4 z5 ⊢
                have hMo := (hMq.outer_ ou).1
                have hbo := hbq.trans ((hMq.outer_ ou).2.mono hfb)
                have hou := HOU.out
                clear hMq hbq
                have hMo2 : FaceM (wy.setCell ⟨fb, 4, none⟩ (.bool ou)) (fb + 1) fb ((W.take (t + 1)).foldl (fcAdd K L (axL L)) (fc0 L x0)) Ad A4 A5 nd cd (np + n1) c4 (nf + m1) c5 := by rw [← hfx.out]; exact hMo
                clear hMo
                cases ho : f.outer with
                | true =>
                  rw [ho] at z4 hou
                  have hot : ou = true := by rw [hou]; rfl
                  have HO := Lib.hid ho
                  clear ho hou HOU
                  subst hot
                  go_wp2_with fail
                  go_roundw
                  case rel => exact ⟨t + 1, _, Ad, A4, A5, nd, cd, np + n1, c4, nf + m1, c5, by omega, by go_num, hMo2, hbo, by omega, by omega, by omega, rfl⟩
                  case measure => simp [intOf]; omega
                | false =>
                  rw [ho] at z4 hou
                  have q8 : ((j : Int) == (m : Int) - 1) = ou := by
                    rw [hou, Bool.false_or, Bool.eq_iff_iff]
                    simp
                    omega
                  have HO := Lib.hid ho
                  clear ho hou HOU
                  go_wp2_with fail
                  go_roundw
                  case rel => exact ⟨t + 1, _, Ad, A4, A5, nd, cd, np + n1, c4, nf + m1, c5, by omega, by go_num, hMo2, hbo, by omega, by omega, by omega, rfl⟩
                  case measure => simp [intOf]; omega
          · have i1 : decide ((t : Int) < (q : Int)) = false := by simp; omega
            have hf : f = faceOf K L (axL L) W := by
              rw [HFD.out, show t = q by omega, ← HQ.out, List.take_length, HX0.out]; rfl
            have hFs : Hid (Fs ++ [f] = ((walksL L).take (i + 1)).map (faceOf K L (axL L))) := by
              rw [hf, HF.out, take_snoc hHW.out, List.map_append]; rfl
            have a0 : wr.cell? ⟨fb, 0, none⟩ = some (.bool f.above) := (hM.bk.cell 0).trans rfl
            have a1 := hM.c1
            have a2 := hM.c2
            have a3 := hM.c3
            have a4 := hM.c4
            have hfc3 := hfc.below hbi
            have hbf1 := buildF1
            have hv : FcOk wr w2.heap.size A3 ⟨f.above, Ad, nd, cd, Ap, np, cp, Af, nf, cf, f.outer⟩ f :=
              ⟨rfl, rfl, Own.mono hM.darts (by omega), hM.places.mono (by omega), Own.mono hM.fingers (by omega), fun q hq e => by have := (hfc.row.lt q e).2; have := (hM.darts.lt q hq).1; omega, fun q hq e => by have := (hfc.row.lt q e).2; have := (hM.places.row.lt q hq).1; omega, fun q hq e => by have := (hfc.row.lt q e).2; have := (hM.fingers.lt q hq).1; omega⟩
            have hbw3 := hbw.trans (hbi.mono hsz)
            have hsz3 := hbi.size
            clear hf HFD hM hbi hfc hbw
            go_wp2_with (at_builtin; refine pushF rfl _ _ rfl hfc3 ⟨f.above, Ad, nd, cd, Ap, np, cp, Af, nf, cf, f.outer⟩ rfl wr.heap.size rfl rfl (i + 1) rfl (by omega) (by omega) ?_; intro A4 c4 w4 hr4 hg4 hl4)
            have hfc4 := hfc3.push hr4 rfl hg4 hl4 hv
            have hbw4 := hbw3.trans (hfc3.row.belowOf hg4 (by omega))
            clear hfc3 hr4 hg4 hl4 hv hbw3 a0 a1 a2 a3 a4
            go_wp2_with fail
            go_roundw
            case rel => exact ⟨i + 1, A4, c4, _, _, by omega, by go_num, rfl, hfc4, hbw4, hFs⟩
            case measure => simp [intOf]; omega
    · have i1 : decide ((i : Int) < (N : Int)) = false := by simp; omega
      have hF : Fs = facesL K L := by
        rw [HF.out, show i = (walksL L).length by rw [← HN.out]; omega, List.take_length]; rfl
      rw [hF] at hfc
      have hbf2 := hbz.more hbw
      have hsz2 := hbz.size
      clear hF HF
      go_wp2_with fail
      go_ret
      exact ⟨A3, i, c3, vs, rfl, hfc.mono (by omega), hbf2.below⟩
end

section
open Go.RowKit
set_option maxRecDepth 100000 in
theorem eqPlc (x : Plc) (w : World) : (Op.equalIn 10000 50 (.agg #[.int .i64 x.gate, .int .i64 x.left]) (.agg #[.int .i64 x.gate, .int .i64 x.left])).run Tryd.prog w = .ok true w := by
  have u3 := Tryd.underlying3
  have a3 := Tryd.isAgg3
  have z3 := Tryd.sizeOf3
  have hS : Tryd.prog.underlying 50 = some (.struct (Tryd.prog.fieldsOf 50)) := by kernel_rfl
  have hp : Tryd.prog.stoodInHeld 50 = false := by kernel_rfl
  rw [show (10000 : Nat) = 9999 + 1 from rfl, run_equalIn_agg w 9999 50 _ _ hS hp]
  simp only [Program.fieldsOf, Tryd.underlying50]
  go_simp
theorem ints_equal (A B : Option Addr) (n m c d : Nat) (L : List Int) (w : World) (hA : Ints w A n L) (hB : Ints w B m L) :
    Calls Tryd.prog 59 #[.slice A n c, .slice B m d] w fun e w' => e = .returned (.bool true) ∧ Below w.heap.size w w' := by
  refine (ref_equal A B n m c d L L w hA hB).mono ?_
  rintro e w' ⟨rfl, hd⟩
  exact ⟨by simp, hd.below _⟩
theorem Fcs.atF {w : World} {base : Nat} {A : Option Addr} {n c i : Nat} {vs : List FV} {Fs : List Fc} (h : Fcs w base A n c vs Fs) (hi : i < n) :
    ∃ (g o : Nat) (v : FV) (F : Fc), A = some ⟨g, o, none⟩ ∧ g < w.heap.size ∧ vs[i]? = some v ∧ Fs[i]? = some F ∧ FcOk w base A v F ∧ w.cell? ⟨g, o + i * 5, none⟩ = some (.bool v.above) ∧ w.cell? ⟨g, o + i * 5 + 1, none⟩ = some (.slice v.dA v.dn v.dc) ∧ w.cell? ⟨g, o + i * 5 + 2, none⟩ = some (.slice v.pA v.pn v.pc) ∧ w.cell? ⟨g, o + i * 5 + 3, none⟩ = some (.slice v.fA v.fn v.fc) ∧ w.cell? ⟨g, o + i * 5 + 4, none⟩ = some (.bool v.outer) := by
  obtain ⟨g, o, rfl, _, hlt⟩ := h.row.form (by omega)
  have hv : vs[i]? = some (vs[i]'(by rw [h.vlen]; exact hi)) := List.getElem?_eq_getElem _
  have hF : Fs[i]? = some (Fs[i]'(by rw [h.len]; exact hi)) := List.getElem?_eq_getElem _
  generalize vs[i]'(by rw [h.vlen]; exact hi) = v at hv
  generalize Fs[i]'(by rw [h.len]; exact hi) = F at hF
  have key : ∀ f (u : Value), f < 5 → (fvC v)[f]? = some u → w.cell? ⟨g, o + (i * 5 + f), none⟩ = some u := fun f u hf hu => h.row.cell (by rw [flat_at fvC 5 fvC_len vs i f v hv hf]; exact hu)
  exact ⟨g, o, v, F, rfl, hlt, hv, hF, h.each i v F hv hF, key 0 _ (by omega) rfl, key 1 _ (by omega) rfl, key 2 _ (by omega) rfl, key 3 _ (by omega) rfl, key 4 _ (by omega) rfl⟩
set_option maxRecDepth 100000 in
set_option maxHeartbeats 6400000 in
theorem same_faces (A1 A2 : Option Addr) (n c1 c2 b1 b2 : Nat) (vs1 vs2 : List FV) (Fs : List Fc) (w : World) (h1 : Fcs w b1 A1 n c1 vs1 Fs) (h2 : Fcs w b2 A2 n c2 vs2 Fs) (hn : n ≤ 1000) (hP : ∀ F ∈ Fs, F.places.length ≤ 100000) :
    Calls Tryd.prog 24 #[.slice A1 n c1, .slice A2 n c2] w fun e w' => e = .returned (.bool true) ∧ Below w.heap.size w w' := by
  have HP := Lib.hid hP
  clear hP
  go_enter Tryd.func24, Tryd.ntmps24
  go_wp2_with fail
  go_loopw [5] (fun v5 wr => ∃ i : Nat, i ≤ n ∧ v5 = .int .i64 i ∧ Below w.heap.size w wr) (fun v5 _ => n - (intOf v5).toNat)
  case atStart => exact ⟨0, Nat.zero_le _, rfl, Below.refl _ _⟩
  case round =>
    obtain ⟨i, hi, rfl, hbw⟩ := hrel
    have hsz := hbw.size
    by_cases hlt : i < n
    · obtain ⟨g1, o1, v1, F, rfl, hg1, _, hF, hv1, x0, x1, x2, x3, x4⟩ := (h1.below hbw).atF hlt
      obtain ⟨g2, o2, v2, F2, rfl, hg2, _, hF2, hv2, y0, y1, y2, y3, y4⟩ := (h2.below hbw).atF hlt
      have hFF : F2 = F := by rw [hF] at hF2; exact (Option.some.inj hF2).symm
      rw [hFF] at hv2
      have hpl := HP.out F (List.mem_of_getElem? hF)
      clear hF hF2 hFF
      obtain ⟨a1, dA1, dn1, dc1, pA1, pn1, pc1, fA1, fn1, fc1, u1⟩ := v1
      obtain ⟨a2, dA2, dn2, dc2, pA2, pn2, pc2, fA2, fn2, fc2, u2⟩ := v2
      have hD1 := hv1.darts
      have hP1 := hv1.places
      have hF1 := hv1.fingers
      have hD2 := hv2.darts
      have hP2 := hv2.places
      have hF2 := hv2.fingers
      have ea1 : a1 = F.above := hv1.above
      have ea2 : a2 = F.above := hv2.above
      have eu1 : u1 = F.outer := hv1.outer
      have eu2 : u2 = F.outer := hv2.outer
      have ep1 := hP1.len
      have ep2 := hP2.len
      simp only [] at x0 x1 x2 x3 x4 y0 y1 y2 y3 y4 hD1 hP1 hF1 hD2 hP2 hF2 ep1 ep2
      obtain rfl : pn2 = pn1 := by omega
      subst ea1; subst ea2; subst eu1; subst eu2
      have hpn : pn2 ≤ 100000 := by omega
      have i0 : (0 : Int) ≤ (i : Int) := by omega
      have i1 : (i : Int) < (n : Int) := by omega
      clear hv1 hv2 ep1 ep2 hpl
      go_upto_region 7 with fail
      have HS := Lib.hid (show ∀ wx, Below wr.heap.size wr wx → Below wr.heap.size wr wx ∧
        wx.cell? ⟨g1, o1 + i * 5, none⟩ = some (.bool F.above) ∧ wx.cell? ⟨g1, o1 + i * 5 + 1, none⟩ = some (.slice dA1 dn1 dc1) ∧ wx.cell? ⟨g1, o1 + i * 5 + 2, none⟩ = some (.slice pA1 pn2 pc1) ∧ wx.cell? ⟨g1, o1 + i * 5 + 3, none⟩ = some (.slice fA1 fn1 fc1) ∧ wx.cell? ⟨g1, o1 + i * 5 + 4, none⟩ = some (.bool F.outer) ∧
        wx.cell? ⟨g2, o2 + i * 5, none⟩ = some (.bool F.above) ∧ wx.cell? ⟨g2, o2 + i * 5 + 1, none⟩ = some (.slice dA2 dn2 dc2) ∧ wx.cell? ⟨g2, o2 + i * 5 + 2, none⟩ = some (.slice pA2 pn2 pc2) ∧ wx.cell? ⟨g2, o2 + i * 5 + 3, none⟩ = some (.slice fA2 fn2 fc2) ∧ wx.cell? ⟨g2, o2 + i * 5 + 4, none⟩ = some (.bool F.outer) from
        fun wx hb => ⟨hb, (hb.cell hg1).trans x0, (hb.cell hg1).trans x1, (hb.cell hg1).trans x2, (hb.cell hg1).trans x3, (hb.cell hg1).trans x4, (hb.cell hg2).trans y0, (hb.cell hg2).trans y1, (hb.cell hg2).trans y2, (hb.cell hg2).trans y3, (hb.cell hg2).trans y4⟩)
      go_cut [6, 7] (fun va vb wz => ∃ (wx : World) (ba bb : Nat), wx = wz ∧ va = .pointer (some ⟨ba, 0, none⟩) ∧ vb = .pointer (some ⟨bb, 0, none⟩) ∧ Blk wx ba 38 #[.bool F.above, .slice dA1 dn1 dc1, .slice pA1 pn2 pc1, .slice fA1 fn1 fc1, .bool F.outer] ∧ Blk wx bb 38 #[.bool F.above, .slice dA2 dn2 dc2, .slice pA2 pn2 pc2, .slice fA2 fn2 fc2, .bool F.outer] ∧ Below wr.heap.size wr wx)
      case first =>
       go_region_held3 (fun wx => Below wr.heap.size wr wx ∧
        wx.cell? ⟨g1, o1 + i * 5, none⟩ = some (.bool F.above) ∧ wx.cell? ⟨g1, o1 + i * 5 + 1, none⟩ = some (.slice dA1 dn1 dc1) ∧ wx.cell? ⟨g1, o1 + i * 5 + 2, none⟩ = some (.slice pA1 pn2 pc1) ∧ wx.cell? ⟨g1, o1 + i * 5 + 3, none⟩ = some (.slice fA1 fn1 fc1) ∧ wx.cell? ⟨g1, o1 + i * 5 + 4, none⟩ = some (.bool F.outer) ∧
        wx.cell? ⟨g2, o2 + i * 5, none⟩ = some (.bool F.above) ∧ wx.cell? ⟨g2, o2 + i * 5 + 1, none⟩ = some (.slice dA2 dn2 dc2) ∧ wx.cell? ⟨g2, o2 + i * 5 + 2, none⟩ = some (.slice pA2 pn2 pc2) ∧ wx.cell? ⟨g2, o2 + i * 5 + 3, none⟩ = some (.slice fA2 fn2 fc2) ∧ wx.cell? ⟨g2, o2 + i * 5 + 4, none⟩ = some (.bool F.outer))
        (first | (refine HS.out _ ?_; repeat (first | with_reducible exact Below.refl _ _ | with_reducible apply Below.drew | ((with_reducible refine below_allocG ?_ ?_); focus (first | (simp; done) | (simp; omega))))))
        (fail)
       all_goals
        go_wp2_with fail
        go_meet
       case rel => exact ⟨_, wr.heap.size, wr.heap.size + 1, rfl, rfl, rfl, (Blk.new wr _ _).alloc _, heap_alloc2_new wr _ _, (((Below.refl _ _).alloc (Nat.le_refl _) _).alloc (by simp) _).drew⟩
       case rel => exact ⟨_, wr.heap.size + 1, wr.heap.size, rfl, rfl, rfl, heap_alloc2_new wr _ _, (Blk.new wr _ _).alloc _, (((Below.refl _ _).alloc (Nat.le_refl _) _).alloc (by simp) _).drew⟩
      case rest =>
        obtain ⟨wx, ba, bb, rfl, rfl, rfl, hBA, hBB, hbx⟩ := hcut
        have hbx2 := hbw.trans (hbx.mono hsz)
        have hD1 := hD1.below hbx
        have hP1 := hP1.next hbx
        have hF1 := hF1.below hbx
        have hD2 := hD2.below hbx
        have hP2 := hP2.next hbx
        have hF2 := hF2.below hbx
        have hsx := hbx2.size
        have p0 : wx.cell? ⟨ba, 0, none⟩ = some (.bool F.above) := (hBA.cell 0).trans rfl
        have p1 : wx.cell? ⟨ba, 1, none⟩ = some (.slice dA1 dn1 dc1) := (hBA.cell 1).trans rfl
        have p4 : wx.cell? ⟨ba, 4, none⟩ = some (.bool F.outer) := (hBA.cell 4).trans rfl
        have q0 : wx.cell? ⟨bb, 0, none⟩ = some (.bool F.above) := (hBB.cell 0).trans rfl
        have q1 : wx.cell? ⟨bb, 1, none⟩ = some (.slice dA2 dn2 dc2) := (hBB.cell 1).trans rfl
        have q4 : wx.cell? ⟨bb, 4, none⟩ = some (.bool F.outer) := (hBB.cell 4).trans rfl
        clear HS x0 x1 x2 x3 x4 y0 y1 y2 y3 y4 hbx hbw
        go_wp2_with fail
        refine (ints_equal dA1 dA2 dn1 dn2 dc1 dc2 _ _ hD1.ints hD2.ints).mono ?_
        rintro e w3 ⟨rfl, hb3⟩
        have p3 : w3.cell? ⟨ba, 3, none⟩ = some (.slice fA1 fn1 fc1) := ((hBA.below hb3 hBA.lt).cell 3).trans rfl
        have q3 : w3.cell? ⟨bb, 3, none⟩ = some (.slice fA2 fn2 fc2) := ((hBB.below hb3 hBB.lt).cell 3).trans rfl
        have hbA := hBA.below hb3 hBA.lt
        have hbB := hBB.below hb3 hBB.lt
        have hb4 := hbx2.trans (hb3.mono hsx)
        have hP1 := hP1.next hb3
        have hP2 := hP2.next hb3
        have hF1 := hF1.below hb3
        have hF2 := hF2.below hb3
        have hs4 := hb4.size
        clear p0 p1 p4 q0 q1 q4 hBA hBB hb3 hbx2
        go_wp2_with fail
        refine (ints_equal fA1 fA2 fn1 fn2 fc1 fc2 _ _ hF1.ints hF2.ints).mono ?_
        rintro e w4 ⟨rfl, hb5⟩
        have p2 : w4.cell? ⟨ba, 2, none⟩ = some (.slice pA1 pn2 pc1) := ((hbA.below hb5 hbA.lt).cell 2).trans rfl
        have q2 : w4.cell? ⟨bb, 2, none⟩ = some (.slice pA2 pn2 pc2) := ((hbB.below hb5 hbB.lt).cell 2).trans rfl
        have hbA := hbA.below hb5 hbA.lt
        have hbB := hbB.below hb5 hbB.lt
        have hb6 := hb4.trans (hb5.mono hs4)
        have hP1 := hP1.next hb5
        have hP2 := hP2.next hb5
        have hs6 := hb6.size
        clear p3 q3 hb5 hb4
        go_wp2_with fail
        clear p2 q2
        go_loopw [8] (fun v8 wi => ∃ j : Nat, j ≤ pn2 ∧ v8 = .int .i64 j ∧ Below w4.heap.size w4 wi) (fun v8 _ => pn2 - (intOf v8).toNat)
        case atStart => exact ⟨0, Nat.zero_le _, rfl, Below.refl _ _⟩
        case round =>
          obtain ⟨j, hj, rfl, hbi⟩ := hrel
          have hA2 := hbA.below hbi hbA.lt
          have hB2 := hbB.below hbi hbB.lt
          have p2 : wr.cell? ⟨ba, 2, none⟩ = some (.slice pA1 pn2 pc1) := (hA2.cell 2).trans rfl
          have q2 : wr.cell? ⟨bb, 2, none⟩ = some (.slice pA2 pn2 pc2) := (hB2.cell 2).trans rfl
          by_cases hjn : j < pn2
          · obtain ⟨r1, s1, x, rfl, hx, _, c10, c11⟩ := (hP1.next hbi).at_ hjn
            obtain ⟨r2, s2, y, rfl, hy, _, c20, c21⟩ := (hP2.next hbi).at_ hjn
            obtain rfl : y = x := by rw [hx] at hy; exact (Option.some.inj hy).symm
            have j0 : (0 : Int) ≤ (j : Int) := by omega
            have j1 : (j : Int) < (pn2 : Int) := by omega
            have heq := fun w => eqPlc y w
            clear hx hy hA2 hB2
            go_wp2_with fail
            go_quiet (fail)
            go_wp2_with fail
            go_roundw
            case rel => exact ⟨j + 1, by omega, by go_num, below_drewN hbi _⟩
            case measure => simp [intOf]; omega
          · have j1 : decide ((j : Int) < (pn2 : Int)) = false := by simp; omega
            have hb7 := hb6.trans (hbi.mono hs6)
            clear hA2 hB2
            go_wp2_with fail
            go_roundw
            case rel => exact ⟨i + 1, by omega, by go_num, hb7⟩
            case measure => simp [intOf]; omega
    · have i1 : decide ((i : Int) < (n : Int)) = false := by simp; omega
      go_wp2_with fail
      go_ret
      exact ⟨rfl, hbw⟩
end
end Go.Proofs.YtkjcmppaapbabaaDoor
