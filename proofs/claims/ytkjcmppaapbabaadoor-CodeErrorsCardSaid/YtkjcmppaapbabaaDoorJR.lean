/-
  Contracts: renamed; the program's Rename. Conditions: the letters read and are at most 1000.
  Contracts: less, before (letters and lists of letters in order). Conditions: the letters read.
  Contracts: the program's Rename, Start. Conditions: the letters read.
  Contracts: the program's normal, Normal, Same. Conditions: the letters read.
  Contracts: the program's Normal, Same; slices.Equal of letters; the law's equal. Conditions: the arguments read as codes.
-/
import Derived.Test.YtkjcmppaapbabaaDoorJK
import Derived.Test.YtkjcmppaapbabaaDoorJD
import Derived.Test.YtkjcmppaapbabaaDoorJH
import Derived.Test.YtkjcmppaapbabaaDoorJG
import Derived.Deep.DeepCutAuto
import Derived.StillTailTactics
import Derived.Test.YtkjcmppaapbabaaDoorJQ
import Derived.Lib.LazyBuf
namespace Go.Proofs.YtkjcmppaapbabaaDoor
section
open Go.RowKit
open Go.Maps (Keyed)
/-- The map of names, as the list of the names met. -/
def nms (M : List Int) : List (Value × Value) := M.zipIdx.map (fun p => (.int .i64 p.1, .int .i64 ((p.2 : Int) + 1)))
theorem nms_len (M : List Int) : (nms M).length = M.length := by simp [nms]
theorem nms_snoc (M : List Int) (d : Int) : nms (M ++ [d]) = nms M ++ [(.int .i64 d, .int .i64 ((M.length : Int) + 1))] := by
  simp [nms, List.zipIdx_append]
theorem nms_at {M : List Int} {j : Nat} {k v : Value} (h : (nms M)[j]? = some (k, v)) : ∃ d, M[j]? = some d ∧ k = .int .i64 d ∧ v = .int .i64 ((j : Int) + 1) := by
  unfold nms at h
  rw [List.getElem?_map, List.getElem?_zipIdx] at h
  cases hj : M[j]? with
  | none => rw [hj] at h; simp at h
  | some d =>
    rw [hj] at h
    simp at h
    exact ⟨d, rfl, h.1.symm, h.2.symm⟩
theorem nms_mem {M : List Int} {d : Int} (h : d ∈ M) : ∃ v, ((.int .i64 d : Value), v) ∈ nms M := by
  refine ⟨.int .i64 ((posI M d : Int) + 1), ?_⟩
  have : (nms M)[posI M d]? = some (.int .i64 d, .int .i64 ((posI M d : Int) + 1)) := by
    unfold nms
    rw [List.getElem?_map, List.getElem?_zipIdx, pos_get h]
    simp
  exact List.mem_of_getElem? this
theorem zeroInt (w : World) : (zeroValue 3).run Tryd.prog w = .ok (.int .i64 0) w := by kernel_rfl
section
variable {w : World} {b : Nat} {M : List Int}
theorem nms_yes (h : KMap w Tryd.prog 3 b (nms M)) (hn : M.Nodup) {d : Int} (hd : I64 d) (hm : d ∈ M) : (Instr.lookup 128 (.map (some b)) (.int .i64 d) false).run Tryd.prog w = .ok (.int .i64 ((posI M d : Int) + 1)) w := by
  obtain ⟨l, hl⟩ := intKey d hd
  rcases h.look intKeyed Tryd.underlying128 (zeroInt w) hl with ⟨_, h2⟩ | ⟨j, v, h1, h2⟩
  · obtain ⟨v, hv⟩ := nms_mem hm
    exact absurd rfl (h2 _ hv)
  · obtain ⟨e, he, hk, rfl⟩ := nms_at h2
    simp only [Value.int.injEq, true_and] at hk
    subst hk
    rw [pos_at hn he]; exact h1
theorem nms_no (h : KMap w Tryd.prog 3 b (nms M)) {d : Int} (hd : I64 d) (hm : d ∉ M) : (Instr.lookup 128 (.map (some b)) (.int .i64 d) false).run Tryd.prog w = .ok (.int .i64 0) w := by
  obtain ⟨l, hl⟩ := intKey d hd
  rcases h.look intKeyed Tryd.underlying128 (zeroInt w) hl with ⟨h1, _⟩ | ⟨j, v, h1, h2⟩
  · exact h1
  · obtain ⟨e, he, hk, rfl⟩ := nms_at h2
    simp only [Value.int.injEq, true_and] at hk
    subst hk
    exact absurd (List.mem_of_getElem? he) hm
theorem nms_push (h : KMap w Tryd.prog 3 b (nms M)) {d : Int} (hd : I64 d) (hm : d ∉ M) : ∃ w', (Instr.mapUpdate 128 (.map (some b)) (.int .i64 d) (.int .i64 ((M.length : Int) + 1))).run Tryd.prog w = .ok () w' ∧ KMap w' Tryd.prog 3 b (nms (M ++ [d])) ∧ w.grownBy w' (some b) := by
  obtain ⟨l, hl⟩ := intKey d hd
  rw [nms_snoc]
  refine h.push intKeyed Tryd.underlying128 hl (fun p hp e => ?_)
  obtain ⟨j, hj⟩ := List.getElem?_of_mem hp
  obtain ⟨x, hx, hk, _⟩ := nms_at (k := p.1) (v := p.2) hj
  rw [e] at hk
  simp only [Value.int.injEq, true_and] at hk
  subst hk
  exact hm (List.mem_of_getElem? hx)
theorem nms_lenrun (h : KMap w Tryd.prog 3 b (nms M)) (ty : TypeId) : (Builtin.len_ #[128] ty #[.map (some b)]).run Tryd.prog w = .ok (.int .i64 M.length) w := by
  obtain ⟨es, clock, hb, he, _⟩ := h
  have hl : es.size = M.length := by
    have := congrArg List.length he
    rw [nms_len] at this
    simpa using this
  simp [Builtin.len_, MapKept.run_getObj_map hb, hl, goInt]
theorem wpList_len_nms {ops : Array Oper} {rest : List Oper} {o : Oper} {a : Act} {Q : Exit → Act → World → Prop} (hg : o.guard = none) (m : Operand) (hop : o.op = Op.call { callee := Callee.builtin Builtin.len, args := #[m], argTypes := #[128] })
    (hm : a.eval m = .map (some b)) (h : KMap w Tryd.prog 3 b (nms M)) (hK : wpList Tryd.prog ops Q rest (a.put o.dst (.int .i64 M.length)) w) : wpList Tryd.prog ops Q (o :: rest) a w := by
  refine wpList_plain hg fun K' hK' => ?_
  unfold Oper.wp
  simp [execOp, hop, resolve, invoke, builtin, hm, nms_lenrun h, Result.andThen]
  exact hK' _ _ hK
end
set_option maxRecDepth 100000 in
set_option maxHeartbeats 6400000 in
theorem code_renamed (A : Option Addr) (n c : Nat) (L : List Lt) (w : World) (hA : Lets w A n L) (hn : n ≤ 1000) :
    Calls Tryd.prog 99 #[.slice A n c] w fun e w' => ∃ A' c', e = .returned (.slice A' n c') ∧ OwnL w' w.heap.size A' n c' (renL L) ∧ Below w.heap.size w w' := by
  have hle := hA.le
  have hLn := Lib.hid hA.len
  have hmm := @run_makeMap Tryd.prog
  have hA1 : Lets (w.alloc (.map #[] 0)) A n L := hA.below ((Below.refl _ _).alloc (Nat.le_refl _) _)
  have hm0 := KMap.made w Tryd.prog 3
  have hb0 : Below w.heap.size w (w.alloc (.map #[] 0)) := (Below.refl _ _).alloc (Nat.le_refl _) _
  have hs0 : (w.alloc (.map #[] 0)).heap.size = w.heap.size + 1 := by simp
  go_enter Tryd.func99, Tryd.ntmps99
  go_wp2_with fail
  generalize w.alloc (.map #[] 0) = X at hA1 hm0 hb0 hs0 ⊢
  refine (clone_letters A n c L _ hA1).mono ?_
  rintro e w1 ⟨A1, c1, rfl, hown, hb1⟩
  rw [hs0] at hown hb1
  have hm1 := hm0.below hb1 (Nat.lt_succ_self _)
  have hbw := hb0.trans (hb1.mono (Nat.le_succ _))
  have hst : Hid (Upto (rnLt (metL L)) L L 0) := Lib.hid (Upto.zero _ _)
  clear hmm hm0 hb0 hb1 hA1
  go_wp2_with fail
  go_loopw [5, 6, 12] (fun _ _ v12 wr => ∃ (i : Nat) (Lw : List Lt) (M : List Int), i ≤ n ∧ v12 = .int .i64 i ∧ OwnL wr (w.heap.size + 1) A1 n c1 Lw ∧ KMap wr Tryd.prog 3 w.heap.size (nms M) ∧ Below w.heap.size w wr ∧ Hid (Upto (rnLt (metL L)) L Lw i) ∧ Hid (M = metT L i)) (fun _ _ v12 _ => n - (intOf v12).toNat)
  case atStart => exact ⟨0, L, [], Nat.zero_le _, rfl, hown, hm1, hbw, hst, Lib.hid rfl⟩
  case round =>
    obtain ⟨i, Lw, M, hi, rfl, hLw, hmp, hbr, HU, HM⟩ := hrel
    clear hown hm1 hbw hst
    by_cases hlt : i < n
    · obtain ⟨gg, o, rfl, hgg, hx, hok⟩ := hLw.lets.at_ hlt
      have hlw : la Lw i = la L i := by rw [HU.out.2 i (by rw [hLn.out]; exact hlt), if_neg (by omega)]
      have hgi : Lw[i]? = some (la L i) := by rw [la_get (by rw [hLw.len]; exact hlt), hlw]
      rw [hlw] at hx hok
      obtain ⟨y0, y1, y2, y3, y4, y5⟩ := hx
      have i0 : (0 : Int) ≤ (i : Int) := by omega
      have i1 : (i : Int) < (n : Int) := by omega
      have hcap := hLw.row.cap
      have hgb := (hLw.row.at_ _ rfl).2.1
      simp only [] at hgb
      have hszr := hbr.size
      have HOK := Lib.hid hok
      have HGI := Lib.hid hgi
      have HLW := Lib.hid hlw
      have hLW := hLw.alloc (.cells #[.int .i64 (la L i).kind, .int .i64 (la L i).gate, .int .i64 (la L i).rank, .int .i64 (la L i).id, .int .i64 (la L i).sign, .bool (la L i).over] 46)
      have hBl := Blk.new wr 46 #[.int .i64 (la L i).kind, .int .i64 (la L i).gate, .int .i64 (la L i).rank, .int .i64 (la L i).id, .int .i64 (la L i).sign, .bool (la L i).over]
      have hWr : Below wr.heap.size wr (wr.alloc (.cells #[.int .i64 (la L i).kind, .int .i64 (la L i).gate, .int .i64 (la L i).rank, .int .i64 (la L i).id, .int .i64 (la L i).sign, .bool (la L i).over] 46)) := (Below.refl _ _).alloc (Nat.le_refl _) _
      have hmW := hmp.alloc (.cells #[.int .i64 (la L i).kind, .int .i64 (la L i).gate, .int .i64 (la L i).rank, .int .i64 (la L i).id, .int .i64 (la L i).sign, .bool (la L i).over] 46)
      clear hok hgi hlw
      go_upto_region 6 with fail
      generalize wr.alloc (.cells #[.int .i64 (la L i).kind, .int .i64 (la L i).gate, .int .i64 (la L i).rank, .int .i64 (la L i).id, .int .i64 (la L i).sign, .bool (la L i).over] 46) = W at hLW hBl hWr hmW ⊢
      have hbW := below_chain hbr hWr hbr.size
      have hWlt : wr.heap.size < W.heap.size := hBl.lt
      have s0 : W.cell? ⟨wr.heap.size, 0, none⟩ = some (.int .i64 (la L i).kind) := (hBl.cell 0).trans rfl
      have s3 : W.cell? ⟨wr.heap.size, 3, none⟩ = some (.int .i64 (la L i).id) := (hBl.cell 3).trans rfl
      have t3 : W.cell? ⟨gg, o + i * 6 + 3, none⟩ = some (.int .i64 (la L i).id) := (hWr.cell (p := ⟨gg, o + i * 6 + 3, none⟩) hgg).trans y3
      have f3 : W.frozen? ⟨gg, o + i * 6 + 3, none⟩ = false := hLW.row.free (j := i * 6 + 3) (by omega)
      have m7 : gg ≠ w.heap.size := by omega
      clear y0 y1 y2 y3 y4 y5 hLw hbr hWr hmp
      by_cases hk1 : (la L i).kind = 2
      · have q1 : ((la L i).kind != 2) = false := by simpa using hk1
        have hc := isC_t hk1
        obtain ⟨d, hd⟩ : ∃ d, (la L i).id = d := ⟨_, rfl⟩
        have hd64 : I64 d := by rw [← hd]; exact HOK.out.id
        have hML : M.length ≤ i := by rw [HM.out]; exact met_len L i
        have HND := Lib.hid (show M.Nodup by rw [HM.out]; exact met_nodup L i)
        rw [hd] at s3 t3
        by_cases hmd : d ∈ M
        · obtain ⟨P, hP⟩ : ∃ P : Nat, posI M d = P := ⟨_, rfl⟩
          have hlk := nms_yes hmW HND.out hd64 hmd
          rw [hP] at hlk
          have hPl : P < M.length := by rw [← hP]; exact pos_lt hmd
          have q2 : (((P : Int) + 1) == 0) = false := by simp; omega
          have hmt := met_old (L := L) (m := i) (by rw [hd, ← HM.out]; exact hmd)
          have hokn : LtOk { la L i with id := (P : Int) + 1 } := ⟨HOK.out.kind, HOK.out.gate, HOK.out.rank, ⟨by simp only []; omega, by simp only []; omega⟩, HOK.out.sign⟩
          have HU1 := Lib.hid (HU.out.set (by rw [hLn.out]; exact hlt) (x := { la L i with id := (P : Int) + 1 }) (by rw [rn_at (by rw [hLn.out]; exact hlt) hc, hmt, ← HM.out, hd, hP]))
          have HM1 := Lib.hid (show M = metT L (i + 1) by rw [hmt]; exact HM.out)
          have hL1 := hLW.put (i := 3) (u := .int .i64 ((P : Int) + 1)) (x' := { la L i with id := (P : Int) + 1 }) HGI.out (by omega) rfl hokn rfl
          have hb5 := hbW.setCell (p := ⟨gg, o + (i * 6 + 3), none⟩) (by simp; omega) (.int .i64 ((P : Int) + 1))
          have hm5 := hmW.setCell (p := ⟨gg, o + (i * 6 + 3), none⟩) (by simp; omega) (.int .i64 ((P : Int) + 1))
          clear HU HM hk1 hc hd hmd hP hPl hmt hokn hLW hmW hbW hML
          go_wp2_with fail
          go_roundw
          case rel => exact ⟨i + 1, _, M, by omega, by go_num, hL1, hm5, hb5, HU1, HM1⟩
          case measure => simp [intOf]; omega
        · have hlk := nms_no hmW hd64 hmd
          have hmt := met_new (L := L) (m := i) hc (by rw [hd, ← HM.out]; exact hmd)
          rw [hd, ← HM.out] at hmt
          have hposn := pos_new hmd
          obtain ⟨X5, hput, hm5, hg5⟩ := nms_push hmW hd64 hmd
          have hnd5 : (M ++ [d]).Nodup := by rw [← hmt]; exact met_nodup L (i + 1)
          have hlk5 := nms_yes hm5 hnd5 hd64 (by simp)
          rw [hposn] at hlk5
          obtain ⟨Q, hQ⟩ : ∃ Q : Nat, M.length = Q := ⟨_, rfl⟩
          have v1 : IntKind.i64.wrap ((Q : Int) + 1) = (Q : Int) + 1 := IntWalk.i64_in _ (by omega)
          have hokn : LtOk { la L i with id := (Q : Int) + 1 } := ⟨HOK.out.kind, HOK.out.gate, HOK.out.rank, ⟨by simp only []; omega, by simp only []; omega⟩, HOK.out.sign⟩
          have HU1 := Lib.hid (HU.out.set (by rw [hLn.out]; exact hlt) (x := { la L i with id := (Q : Int) + 1 }) (by rw [rn_at (by rw [hLn.out]; exact hlt) hc, hmt, hd, hposn, hQ]))
          have HM1 := Lib.hid (show M ++ [d] = metT L (i + 1) from hmt.symm)
          have hb5 : Below w.heap.size w X5 := hbW.trans ((Below.refl w.heap.size W).grown hg5 hbW.size (fun k hk => by injection hk with hk; omega))
          have hL5 : OwnL X5 (w.heap.size + 1) (some ⟨gg, o, none⟩) n c1 Lw := ⟨hLW.row.kept hg5 (.inr (by simp [blk]; omega)), hLW.fits, hLW.le⟩
          have hBl5 := hBl.grown hg5 (by simp; omega)
          have s35 : X5.cell? ⟨wr.heap.size, 3, none⟩ = some (.int .i64 d) := (hBl5.cell 3).trans (by rw [← hd]; rfl)
          have f35 : X5.frozen? ⟨gg, o + i * 6 + 3, none⟩ = false := hL5.row.free (j := i * 6 + 3) (by omega)
          have hx5 := (hL5.lets.also hlt).1
          rw [HLW.out] at hx5
          have t35 := hx5.id
          rw [hd] at t35
          have hL1 := hL5.put (i := 3) (u := .int .i64 ((Q : Int) + 1)) (x' := { la L i with id := (Q : Int) + 1 }) HGI.out (by omega) rfl hokn rfl
          have hb6 := hb5.setCell (p := ⟨gg, o + (i * 6 + 3), none⟩) (by simp; omega) (.int .i64 ((Q : Int) + 1))
          have hm6 := hm5.setCell (p := ⟨gg, o + (i * 6 + 3), none⟩) (by simp; omega) (.int .i64 ((Q : Int) + 1))
          rw [hQ] at hput hlk5
          have HQ := Lib.hid hQ
          have HMW := Lib.hid hmW
          clear HU HM hk1 hc hd hmd hmt hokn hLW hbW hML hposn hx5 hL5 hb5 hm5 hmW hQ hg5 hBl hBl5 hnd5
          go_wp2_with (at_len; refine wpList_len_nms rfl _ rfl rfl HMW.out ?_; rw [HQ.out])
          go_roundw
          case rel => exact ⟨i + 1, _, _, by omega, by go_num, hL1, hm6, hb6, HU1, HM1⟩
          case measure => simp [intOf]; omega
      · have q1 : ((la L i).kind != 2) = true := by simpa using hk1
        have hcf := isC_f hk1
        have HU1 := Lib.hid (HU.out.skip (rn_n (M := metL L) hcf))
        have HM1 := Lib.hid (show M = metT L (i + 1) by rw [met_no hcf]; exact HM.out)
        clear hk1 hcf HU HM
        go_wp2_with fail
        go_roundw
        case rel => exact ⟨i + 1, Lw, M, by omega, by go_num, hLW, hmW, hbW, HU1, HM1⟩
        case measure => simp [intOf]; omega
    · have hin : i = n := by omega
      have hU := HU.out
      rw [hin, ← hLn.out] at hU
      have hLf := hU.all
      rw [hLf] at hLw
      have i1 : ¬ (i : Int) < (n : Int) := by omega
      clear hU hLf hin HU
      go_wp2_with fail
      go_ret
      exact ⟨A1, c1, rfl, hLw.mono (by omega), hbr⟩
end

section
open Go.RowKit
theorem lsk {a b : Lt} (h1 : ¬ a.kind = b.kind) : lsB a b = decide (a.kind < b.kind) := by unfold lsB; rw [if_pos h1]
theorem lsg {a b : Lt} (h1 : a.kind = b.kind) (h2 : ¬ a.gate = b.gate) : lsB a b = decide (a.gate < b.gate) := by unfold lsB; rw [if_neg (by simp [h1]), if_pos h2]
theorem lsr {a b : Lt} (h1 : a.kind = b.kind) (h2 : a.gate = b.gate) (h3 : ¬ a.rank = b.rank) : lsB a b = decide (a.rank < b.rank) := by unfold lsB; rw [if_neg (by simp [h1]), if_neg (by simp [h2]), if_pos h3]
theorem lsi {a b : Lt} (h1 : a.kind = b.kind) (h2 : a.gate = b.gate) (h3 : a.rank = b.rank) (h4 : ¬ a.id = b.id) : lsB a b = decide (a.id < b.id) := by unfold lsB; rw [if_neg (by simp [h1]), if_neg (by simp [h2]), if_neg (by simp [h3]), if_pos h4]
theorem lso {a b : Lt} (h1 : a.kind = b.kind) (h2 : a.gate = b.gate) (h3 : a.rank = b.rank) (h4 : a.id = b.id) (h5 : ¬ a.over = b.over) : lsB a b = b.over := by unfold lsB; rw [if_neg (by simp [h1]), if_neg (by simp [h2]), if_neg (by simp [h3]), if_neg (by simp [h4]), if_pos h5]
theorem lss {a b : Lt} (h1 : a.kind = b.kind) (h2 : a.gate = b.gate) (h3 : a.rank = b.rank) (h4 : a.id = b.id) (h5 : a.over = b.over) : lsB a b = decide (a.sign < b.sign) := by unfold lsB; rw [if_neg (by simp [h1]), if_neg (by simp [h2]), if_neg (by simp [h3]), if_neg (by simp [h4]), if_neg (by simp [h5])]
set_option maxRecDepth 100000 in
set_option maxHeartbeats 3200000 in
theorem code_less (a b : Lt) (w : World) :
    Calls Tryd.prog 157 #[.agg #[.int .i64 a.kind, .int .i64 a.gate, .int .i64 a.rank, .int .i64 a.id, .int .i64 a.sign, .bool a.over], .agg #[.int .i64 b.kind, .int .i64 b.gate, .int .i64 b.rank, .int .i64 b.id, .int .i64 b.sign, .bool b.over]] w fun e w' => e = .returned (.bool (lsB a b)) ∧ Below w.heap.size w w' := by
  obtain ⟨R, hR⟩ : ∃ R, lsB a b = R := ⟨_, rfl⟩
  have hb2 : Below w.heap.size w ((w.alloc (.cells #[.int .i64 a.kind, .int .i64 a.gate, .int .i64 a.rank, .int .i64 a.id, .int .i64 a.sign, .bool a.over] 46)).alloc (.cells #[.int .i64 b.kind, .int .i64 b.gate, .int .i64 b.rank, .int .i64 b.id, .int .i64 b.sign, .bool b.over] 46)) := ((Below.refl _ _).alloc (Nat.le_refl _) _).alloc (by simp) _
  have bB : Blk ((w.alloc (.cells #[.int .i64 a.kind, .int .i64 a.gate, .int .i64 a.rank, .int .i64 a.id, .int .i64 a.sign, .bool a.over] 46)).alloc (.cells #[.int .i64 b.kind, .int .i64 b.gate, .int .i64 b.rank, .int .i64 b.id, .int .i64 b.sign, .bool b.over] 46)) (w.heap.size + 1) 46 #[.int .i64 b.kind, .int .i64 b.gate, .int .i64 b.rank, .int .i64 b.id, .int .i64 b.sign, .bool b.over] := heap_alloc2_new w _ _
  have bA := (Blk.new w 46 #[.int .i64 a.kind, .int .i64 a.gate, .int .i64 a.rank, .int .i64 a.id, .int .i64 a.sign, .bool a.over]).alloc (.cells #[.int .i64 b.kind, .int .i64 b.gate, .int .i64 b.rank, .int .i64 b.id, .int .i64 b.sign, .bool b.over] 46)
  rw [hR]
  go_enter Tryd.func157, Tryd.ntmps157
  go_upto_region 1 with fail
  generalize (w.alloc (.cells #[.int .i64 a.kind, .int .i64 a.gate, .int .i64 a.rank, .int .i64 a.id, .int .i64 a.sign, .bool a.over] 46)).alloc (.cells #[.int .i64 b.kind, .int .i64 b.gate, .int .i64 b.rank, .int .i64 b.id, .int .i64 b.sign, .bool b.over] 46) = W at hb2 bA bB ⊢
  have x0 : W.cell? ⟨w.heap.size, 0, none⟩ = some (.int .i64 a.kind) := (bA.cell 0).trans rfl
  have x1 : W.cell? ⟨w.heap.size, 1, none⟩ = some (.int .i64 a.gate) := (bA.cell 1).trans rfl
  have x2 : W.cell? ⟨w.heap.size, 2, none⟩ = some (.int .i64 a.rank) := (bA.cell 2).trans rfl
  have x3 : W.cell? ⟨w.heap.size, 3, none⟩ = some (.int .i64 a.id) := (bA.cell 3).trans rfl
  have x4 : W.cell? ⟨w.heap.size, 4, none⟩ = some (.int .i64 a.sign) := (bA.cell 4).trans rfl
  have x5 : W.cell? ⟨w.heap.size, 5, none⟩ = some (.bool a.over) := (bA.cell 5).trans rfl
  have y0 : W.cell? ⟨w.heap.size + 1, 0, none⟩ = some (.int .i64 b.kind) := (bB.cell 0).trans rfl
  have y1 : W.cell? ⟨w.heap.size + 1, 1, none⟩ = some (.int .i64 b.gate) := (bB.cell 1).trans rfl
  have y2 : W.cell? ⟨w.heap.size + 1, 2, none⟩ = some (.int .i64 b.rank) := (bB.cell 2).trans rfl
  have y3 : W.cell? ⟨w.heap.size + 1, 3, none⟩ = some (.int .i64 b.id) := (bB.cell 3).trans rfl
  have y4 : W.cell? ⟨w.heap.size + 1, 4, none⟩ = some (.int .i64 b.sign) := (bB.cell 4).trans rfl
  have y5 : W.cell? ⟨w.heap.size + 1, 5, none⟩ = some (.bool b.over) := (bB.cell 5).trans rfl
  clear bA bB
  by_cases h1 : a.kind = b.kind
  · have q1 : (a.kind != b.kind) = false := by simpa using h1
    by_cases h2 : a.gate = b.gate
    · have q2 : (a.gate != b.gate) = false := by simpa using h2
      by_cases h3 : a.rank = b.rank
      · have q3 : (a.rank != b.rank) = false := by simpa using h3
        by_cases h4 : a.id = b.id
        · have q4 : (a.id != b.id) = false := by simpa using h4
          by_cases h5 : a.over = b.over
          · have q5 : (a.over != b.over) = false := by simpa using h5
            have q6 : (!(a.over == b.over)) = false := by simpa using h5
            have HF := Lib.hid (hR.symm.trans (lss h1 h2 h3 h4 h5))
            clear h1 h2 h3 h4 h5 hR
            go_wp2_with fail
            go_ret
            exact ⟨ret_bool HF.out.symm, hb2⟩
          · have q5 : (a.over != b.over) = true := by simpa using h5
            have q6 : (!(a.over == b.over)) = true := by simpa using h5
            have HF := Lib.hid (hR.symm.trans (lso h1 h2 h3 h4 h5))
            clear h1 h2 h3 h4 h5 hR
            go_wp2_with fail
            go_ret
            exact ⟨ret_bool HF.out.symm, hb2⟩
        · have q4 : (a.id != b.id) = true := by simpa using h4
          have HF := Lib.hid (hR.symm.trans (lsi h1 h2 h3 h4))
          clear h1 h2 h3 h4 hR
          go_wp2_with fail
          go_ret
          exact ⟨ret_bool HF.out.symm, hb2⟩
      · have q3 : (a.rank != b.rank) = true := by simpa using h3
        have HF := Lib.hid (hR.symm.trans (lsr h1 h2 h3))
        clear h1 h2 h3 hR
        go_wp2_with fail
        go_ret
        exact ⟨ret_bool HF.out.symm, hb2⟩
    · have q2 : (a.gate != b.gate) = true := by simpa using h2
      have HF := Lib.hid (hR.symm.trans (lsg h1 h2))
      clear h1 h2 hR
      go_wp2_with fail
      go_ret
      exact ⟨ret_bool HF.out.symm, hb2⟩
  · have q1 : (a.kind != b.kind) = true := by simpa using h1
    have HF := Lib.hid (hR.symm.trans (lsk h1))
    clear h1 hR
    go_wp2_with fail
    go_ret
    exact ⟨ret_bool HF.out.symm, hb2⟩
set_option maxRecDepth 100000 in
set_option maxHeartbeats 3200000 in
theorem code_before (A B : Option Addr) (n c d : Nat) (L M : List Lt) (w : World) (hA : Lets w A n L) (hB : Lets w B n M) :
    Calls Tryd.prog 130 #[.slice A n c, .slice B n d] w fun e w' => e = .returned (.bool (bfB L M)) ∧ Below w.heap.size w w' := by
  have hle := hA.le
  have HL := Lib.hid hA.len
  have HM := Lib.hid hB.len
  obtain ⟨R, hR⟩ : ∃ R, bfB L M = R := ⟨_, rfl⟩
  have HR := Lib.hid hR
  rw [hR]
  clear hR
  have hst : Hid (∀ j, j < 0 → la L j = la M j) := Lib.hid (fun j hj => by omega)
  go_enter Tryd.func130, Tryd.ntmps130
  go_wp2_with fail
  go_loopw [5, 8] (fun _ v8 wr => ∃ i : Nat, i ≤ n ∧ v8 = .int .i64 i ∧ Below w.heap.size w wr ∧ Hid (∀ j, j < i → la L j = la M j)) (fun _ v8 _ => n - (intOf v8).toNat)
  case atStart => exact ⟨0, Nat.zero_le _, rfl, Below.refl _ _, hst⟩
  case round =>
    obtain ⟨i, hi, rfl, hbr, HS⟩ := hrel
    clear hst
    by_cases hlt : i < n
    · obtain ⟨g1, o1, rfl, hg1, hx, _⟩ := (hA.below hbr).at_ hlt
      obtain ⟨g2, o2, rfl, hg2, hy, _⟩ := (hB.below hbr).at_ hlt
      obtain ⟨x0, x1, x2, x3, x4, x5⟩ := hx
      obtain ⟨y0, y1, y2, y3, y4, y5⟩ := hy
      have i0 : (0 : Int) ≤ (i : Int) := by omega
      have i1 : (i : Int) < (n : Int) := by omega
      have heq := fun w => eqLt (la L i) (la M i) w
      cases hq : ltB (la L i) (la M i) with
      | true =>
        have HS1 := Lib.hid (show ∀ j, j < i + 1 → la L j = la M j from fun j hj => by
          rcases Nat.decEq j i with e | e
          · exact HS.out j (by omega)
          · subst e; exact ltB_iff.1 hq)
        clear HS
        go_wp2_with fail
        go_quiet (fail)
        go_wp2_with fail
        go_roundw
        case rel => exact ⟨i + 1, by omega, by go_num, below_drewN hbr _, HS1⟩
        case measure => simp [intOf]; omega
      | false =>
        have HF := Lib.hid (show R = lsB (la L i) (la M i) by
          rw [← HR.out]
          refine bf_at (by rw [HL.out]; exact hlt) (by rw [HM.out]; exact hlt) HS.out (fun e => ?_)
          rw [e, ltB_iff.2 rfl] at hq
          cases hq)
        clear HS
        go_wp2_with fail
        go_quiet (fail)
        go_wp2_with fail
        have hb3 : Below w.heap.size w (wr.drewN nq) := below_drewN hbr nq
        generalize wr.drewN nq = wy at hb3 ⊢
        obtain ⟨z0, z1, z2, z3, z4, z5⟩ := ((hA.below hb3).also hlt).1
        obtain ⟨t0, t1, t2, t3, t4, t5⟩ := ((hB.below hb3).also hlt).1
        go_still_tail 8, (by kernel_rfl)
        change wpList _ _ _ _ _ wy.drew
        have hb4 := hb3.drew
        generalize wy.drew = w2 at hb4 ⊢
        go_wp2_with fail
        refine (code_less (la L i) (la M i) w2).mono ?_
        rintro e w3 ⟨rfl, hb5⟩
        go_wp2_with fail
        go_ret
        exact ⟨ret_bool HF.out.symm, below_chain hb4 hb5 hb4.size⟩
    · have hin : i = n := by omega
      have HF := Lib.hid (show R = false by
        rw [← HR.out]
        exact bf_no (fun j hj => HS.out j (by rw [HL.out] at hj; omega)))
      have i1 : ¬ (i : Int) < (n : Int) := by omega
      clear HS hin
      go_wp2_with fail
      go_ret
      exact ⟨ret_bool HF.out.symm, hbr⟩
end

section
open Go.RowKit
set_option maxRecDepth 100000 in
set_option maxHeartbeats 3200000 in
theorem rename_1 (p k : Nat) (A : Option Addr) (n c : Nat) (L : List Lt) (w : World) (hd : DiaN w p k A n c L) (hA : Lets w A n L) (hs : Tame (k : Int) L) :
    Calls Tryd.prog 98 #[.pointer (some ⟨p, 0, none⟩)] w (GivesL w (renL L)) := by
  have hn4 : n ≤ 1000 := by have := hs.len; have := hA.len; omega
  obtain ⟨d1, d2, d3, d4⟩ := hd
  clear d4 hs
  go_enter Tryd.func98, Tryd.ntmps98
  go_wp2_with fail
  refine (code_renamed A n c L _ hA hn4).mono ?_
  rintro e w1 ⟨A1, c1, rfl, hown, hb1⟩
  clear d1
  go_wp2_with fail
  go_ret
  exact ⟨A1, n, c1, rfl, hown, hb1⟩
set_option maxRecDepth 100000 in
set_option maxHeartbeats 6400000 in
theorem changed_rename (K : Int) (A : Option Addr) (n c : Nat) (L : List Lt) (w : World) (hA : Lets w A n L) (hc : n ≤ c) :
    Calls Tryd.prog 90 #[.agg #[.int .i64 K, .slice A n c], .func (.func 98) #[] #[]] w (GivesCE w (keepK K L) (keepL K L (renL L)) (checkE K L)) := by
  have hbc0 := build_code0
  have hbc2 := build_code2
  have hbx : Boxed w ((w.alloc (.cells #[.int .i64 K, .slice A n c] 24)).alloc (.cells #[.int .i64 0, .slice none 0 0] 24)) K A n c := (Boxed.refl w K A n c).alloc _
  have hR0 : Blk ((w.alloc (.cells #[.int .i64 K, .slice A n c] 24)).alloc (.cells #[.int .i64 0, .slice none 0 0] 24)) (w.heap.size + 1) 24 #[.int .i64 0, .slice none 0 0] := heap_alloc2_new w _ _
  obtain ⟨E, hE⟩ : ∃ E, checkE K L = E := ⟨_, rfl⟩
  have HE := Lib.hid hE
  clear hE
  go_enter Tryd.func90, Tryd.ntmps90
  go_wp2_with fail
  generalize (w.alloc (.cells #[.int .i64 K, .slice A n c] 24)).alloc (.cells #[.int .i64 0, .slice none 0 0] 24) = X at hbx hR0 ⊢
  refine (code_read K A n c L _ (hA.below hbx.below)).mono ?_
  rintro e w1 ⟨v, rfl, hb1, hok⟩
  have hX := hR0.lt
  have hsX := hb1.size
  have hR1 := hR0.below hb1 hX
  have hb2 := hbx.more hb1
  have x0 := hb2.c0
  have r0 : w1.cell? ⟨w.heap.size + 1, 0, none⟩ = some (.int .i64 0) := (hR1.cell 0).trans rfl
  have r1 : w1.cell? ⟨w.heap.size + 1, 1, none⟩ = some (.slice none 0 0) := (hR1.cell 1).trans rfl
  have z0 := hR1.frozen 0
  have z1 := hR1.frozen 1
  rw [HE.out]
  by_cases hz : E = 0
  · subst hz
    obtain ⟨p, rfl, k, rfl, hk40, hn400, hp, hcase⟩ := hok HE.out
    have HSM := Lib.hid (tame_of_check HE.out)
    have hdn : DiaN w1 p k A n c L := by
      rcases hcase with ⟨h0, hd⟩ | ⟨_, base, b, g2, g3, g4, g6, s, P, C, ids, _, hF⟩
      · exact ⟨hd.c1, hd.lt, hc, fun h => by omega⟩
      · exact ⟨hF.ranks.dia.c1, hF.ranks.dia.lt, hc, fun _ => ⟨base, b, g2, g3, g4, g6, s, P, C, ids, hF⟩⟩
    have hcl : ∀ wx, Below w1.heap.size w1 wx → Calls Tryd.prog 98 #[.pointer (some ⟨p, 0, none⟩)] wx (GivesL wx (renL L)) := fun wx h => rename_1 p k A n c L wx (hdn.next h) (hA.below (hb2.more h).below) HSM.out
    have k0 : ∀ wx, Below w1.heap.size w1 wx → wx.cell? ⟨w.heap.size, 0, none⟩ = some (.int .i64 (k : Int)) := fun wx h => (hb2.more h).c0
    have k1 : ∀ wx a1 a2, Below w1.heap.size w1 wx → ((wx.setCell ⟨w.heap.size + 1, 0, none⟩ a1).setCell ⟨w.heap.size + 1, 1, none⟩ a2).cell? ⟨w.heap.size, 0, none⟩ = some (.int .i64 (k : Int)) := fun wx a1 a2 h => by
      rw [World.cell?_setCell_other _ _ _ _ (by intro e; injection e with e; omega), World.cell?_setCell_other _ _ _ _ (by intro e; injection e with e; omega)]
      exact (hb2.more h).c0
    have HCL := Lib.hid hcl
    have KP := Lib.hid k0
    have KS := Lib.hid k1
    have HW := hb2.below
    have hlw : w.heap.size + 1 < w1.heap.size := hR1.lt
    clear hcl k0 k1 hok hcase hdn hb2 hbx hR0 hb1 r0 r1 z0 z1
    go_wp2_with fail
    first
      | go_region_held3 (fun wx => wx.cell? ⟨w.heap.size, 0, none⟩ = some (.int .i64 (k : Int))) (first | assumption | exact KP.out _ (Below.refl _ _).drew | exact KP.out _ (by assumption) | exact KS.out _ _ _ (by assumption))
          ((go_at_call 98; refine (HCL.out _ (Below.refl _ _).drew).mono ?_; rintro e wy ⟨A2, n2, c2, rfl, hL2, hb3⟩; have hbz : Below w1.heap.size w1 wy := below_chain (Below.refl w1.heap.size w1).drew hb3 (Nat.le_refl _); have u0 : wy.cell? ⟨w.heap.size + 1, 0, none⟩ = some (.int .i64 0) := ((hR1.below hbz hlw).cell 0).trans rfl; have u1 : wy.cell? ⟨w.heap.size + 1, 1, none⟩ = some (.slice none 0 0) := ((hR1.below hbz hlw).cell 1).trans rfl; have u2 := (hR1.below hbz hlw).frozen 0; have u3 := (hR1.below hbz hlw).frozen 1))
      | fail
    all_goals
      have hRy := hR1.below (by assumption : Below w1.heap.size w1 wy) hlw
      have hG := copy_ends (w := w) (X := w1) (K := (k : Int)) hRy (by assumption : Below w1.heap.size w1 wy) HW hlw hL2
      clear x0 u0 u1 u2 u3 hRy
      go_wp2_with fail
      (try simp only [Exit.inBlock, Exit.then])
      refine ret_cellT rfl rfl rfl hG.1 Tryd.underlying24 rfl (by kernel_rfl) rfl ?_
      exact ⟨A2, n2, c2, by rw [keepK_ok HE.out, HE.out]; rfl, by rw [keepL_ok HE.out]; exact hG.2.1, hG.2.2⟩
  · have q : (E != 0) = true := by simpa using hz
    have hS : Blk ((w1.setCell ⟨w.heap.size + 1, 0, none⟩ (.int .i64 0)).setCell ⟨w.heap.size + 1, 1, none⟩ (.slice none 0 0)) (w.heap.size + 1) 24 #[.int .i64 0, .slice none 0 0] := (hR1.set_ 0 _).set_ 1 _
    have hbS := (hb2.below.setCell (p := ⟨w.heap.size + 1, 0, none⟩) (by simp) (.int .i64 0)).setCell (p := ⟨w.heap.size + 1, 1, none⟩) (by simp) (.slice none 0 0)
    have HZ := Lib.hid hz
    clear hz hok hR0 hR1 hb1 hbx
    go_wp2_with fail
    (try simp only [Exit.inBlock, Exit.then])
    refine ret_cellT rfl rfl rfl hS Tryd.underlying24 rfl (by kernel_rfl) rfl ?_
    exact ⟨none, 0, 0, by rw [keepK_no (by rw [HE.out]; exact HZ.out), HE.out]; rfl, by rw [keepL_no (by rw [HE.out]; exact HZ.out)]; exact OwnL.nil _ _, hbS⟩
set_option maxRecDepth 100000 in
set_option maxHeartbeats 3200000 in
theorem code_rename (K : Int) (A : Option Addr) (n c : Nat) (L : List Lt) (w : World) (hA : Lets w A n L) (hc : n ≤ c) :
    Calls Tryd.prog 50 #[.agg #[.int .i64 K, .slice A n c]] w (GivesCE w (keepK K L) (keepL K L (renL L)) (checkE K L)) := by
  have hbx : Boxed w ((w.alloc (.cells #[.int .i64 K, .slice A n c] 24)).alloc (.cells #[.int .i64 0, .slice none 0 0] 24)) K A n c := (Boxed.refl w K A n c).alloc _
  have hR0 : Blk ((w.alloc (.cells #[.int .i64 K, .slice A n c] 24)).alloc (.cells #[.int .i64 0, .slice none 0 0] 24)) (w.heap.size + 1) 24 #[.int .i64 0, .slice none 0 0] := heap_alloc2_new w _ _
  obtain ⟨E, hE⟩ : ∃ E, checkE K L = E := ⟨_, rfl⟩
  obtain ⟨K2, hK2⟩ : ∃ K2 : Int, keepK K L = K2 := ⟨_, rfl⟩
  obtain ⟨M, hM⟩ : ∃ M : List Lt, keepL K L (renL L) = M := ⟨_, rfl⟩
  have hch := fun wx (h : Lets wx A n L) => changed_rename K A n c L wx h hc
  rw [hE, hK2, hM] at hch ⊢
  have HCH := Lib.hid hch
  clear hch hE hK2 hM
  go_enter Tryd.func50, Tryd.ntmps50
  go_wp2_with fail
  generalize (w.alloc (.cells #[.int .i64 K, .slice A n c] 24)).alloc (.cells #[.int .i64 0, .slice none 0 0] 24) = X at hbx hR0 ⊢
  refine (HCH.out _ (hA.below hbx.below)).mono ?_
  rintro e w1 ⟨A1, n1, c1, rfl, hL1, hb1⟩
  have hX := hR0.lt
  have hR1 := hR0.below hb1 hX
  have r0 : w1.cell? ⟨w.heap.size + 1, 0, none⟩ = some (.int .i64 0) := (hR1.cell 0).trans rfl
  have r1 : w1.cell? ⟨w.heap.size + 1, 1, none⟩ = some (.slice none 0 0) := (hR1.cell 1).trans rfl
  have z0 := hR1.frozen 0
  have z1 := hR1.frozen 1
  have hG := copy_ends (w := w) (X := X) (K := K2) hR1 hb1 hbx.below hX hL1
  clear hR0 hR1 hbx hb1
  go_wp2_with fail
  (try simp only [Exit.inBlock, Exit.then])
  refine ret_cellT rfl rfl rfl hG.1 Tryd.underlying24 rfl (by kernel_rfl) rfl ?_
  exact ⟨A1, n1, c1, rfl, hG.2.1, hG.2.2⟩
/-- The result of Start. -/
def staE (K : Int) (L : List Lt) (i : Int) : Int := if checkE K L ≠ 0 then checkE K L else if 0 ≤ i ∧ i < (L.length : Int) ∧ isP (la L i.toNat) = true ∧ dwn L i.toNat = true then 0 else 2
def staK (K : Int) (L : List Lt) (i : Int) : Int := if staE K L i = 0 then K else 0
def staM (K : Int) (L : List Lt) (i : Int) : List Lt := if staE K L i = 0 then rotT L i.toNat else []
theorem staE_no {K : Int} {L : List Lt} {i : Int} (h : checkE K L ≠ 0) : staE K L i = checkE K L := by unfold staE; rw [if_pos h]
theorem staE_bad {K : Int} {L : List Lt} {i : Int} (h : checkE K L = 0) (h2 : ¬(0 ≤ i ∧ i < (L.length : Int) ∧ isP (la L i.toNat) = true ∧ dwn L i.toNat = true)) : staE K L i = 2 := by unfold staE; rw [if_neg (by rw [h]; simp), if_neg h2]
theorem staE_ok {K : Int} {L : List Lt} {i : Int} (h : checkE K L = 0) (h2 : 0 ≤ i ∧ i < (L.length : Int) ∧ isP (la L i.toNat) = true ∧ dwn L i.toNat = true) : staE K L i = 0 := by unfold staE; rw [if_neg (by rw [h]; simp), if_pos h2]
theorem sta_none {w : World} {K : Int} {L : List Lt} {i E : Int} {w' : World} (hE : staE K L i = E) (h0 : E ≠ 0) (hb : Below w.heap.size w w') {e : Ending} (he : e = .returned (.tuple #[.agg #[.int .i64 0, .slice none 0 0], .int .i64 E])) :
    GivesCE w (staK K L i) (staM K L i) (staE K L i) e w' := by
  refine ⟨none, 0, 0, ?_, ?_, hb⟩
  · unfold staK; rw [if_neg (by rw [hE]; exact h0), hE]; exact he
  · unfold staM; rw [if_neg (by rw [hE]; exact h0)]; exact OwnL.nil _ _
set_option maxRecDepth 100000 in
set_option maxHeartbeats 6400000 in
theorem code_Start (K i : Int) (hi64 : I64 i) (A : Option Addr) (n c : Nat) (L : List Lt) (w : World) (hA : Lets w A n L) (hc : n ≤ c) :
    Calls Tryd.prog 62 #[.agg #[.int .i64 K, .slice A n c], .int .i64 i] w (GivesCE w (staK K L i) (staM K L i) (staE K L i)) := by
  have hbc0 := build_code0
  have hbc2 := build_code2
  have hle := hA.le
  have hLn := Lib.hid hA.len
  have hbx : Boxed w ((w.alloc (.cells #[.int .i64 K, .slice A n c] 24)).alloc (.cells #[.int .i64 0, .slice none 0 0] 24)) K A n c := (Boxed.refl w K A n c).alloc _
  have hR0 : Blk ((w.alloc (.cells #[.int .i64 K, .slice A n c] 24)).alloc (.cells #[.int .i64 0, .slice none 0 0] 24)) (w.heap.size + 1) 24 #[.int .i64 0, .slice none 0 0] := heap_alloc2_new w _ _
  obtain ⟨E, hE⟩ : ∃ E, checkE K L = E := ⟨_, rfl⟩
  have HE := Lib.hid hE
  clear hE
  go_enter Tryd.func62, Tryd.ntmps62
  go_wp2_with fail
  generalize (w.alloc (.cells #[.int .i64 K, .slice A n c] 24)).alloc (.cells #[.int .i64 0, .slice none 0 0] 24) = X at hbx hR0 ⊢
  refine (code_read K A n c L _ (hA.below hbx.below)).mono ?_
  rintro e w1 ⟨v, rfl, hb1, hok⟩
  have hX := hR0.lt
  have hsX := hb1.size
  have hR1 := hR0.below hb1 hX
  have hb2 := hbx.more hb1
  have x0 := hb2.c0
  have r0 : w1.cell? ⟨w.heap.size + 1, 0, none⟩ = some (.int .i64 0) := (hR1.cell 0).trans rfl
  have r1 : w1.cell? ⟨w.heap.size + 1, 1, none⟩ = some (.slice none 0 0) := (hR1.cell 1).trans rfl
  have z0 := hR1.frozen 0
  have z1 := hR1.frozen 1
  have hS : ∀ W, Below w1.heap.size w1 W → ∀ u v, Blk ((W.setCell ⟨w.heap.size + 1, 0, none⟩ u).setCell ⟨w.heap.size + 1, 1, none⟩ v) (w.heap.size + 1) 24 #[u, v] := fun W hW u v => ((hR1.below hW hR1.lt).set_ 0 u).set_ 1 v
  have hbS : ∀ W, Below w1.heap.size w1 W → ∀ u v, Below w.heap.size w ((W.setCell ⟨w.heap.size + 1, 0, none⟩ u).setCell ⟨w.heap.size + 1, 1, none⟩ v) := fun W hW u v => ((below_chain hb2.below hW (Nat.le_of_succ_le hb2.size)).setCell (p := ⟨w.heap.size + 1, 0, none⟩) (by simp) u).setCell (p := ⟨w.heap.size + 1, 1, none⟩) (by simp) v
  have HSS := Lib.hid hS
  have HBS := Lib.hid hbS
  clear hS hbS
  rw [HE.out]
  by_cases hz : E = 0
  · subst hz
    obtain ⟨p, rfl, k, rfl, hk40, hn400, hp, hcase⟩ := hok HE.out
    have hsta : ∀ b, (staE (k : Int) L i = b) → True := fun _ _ => trivial
    have hdnp : w1.cell? ⟨p, 1, none⟩ = some (.slice A n c) ∧ p < w1.heap.size := by
      rcases hcase with ⟨h0, hd⟩ | ⟨_, base, b, g2, g3, g4, g6, s, P, C, ids, _, hF⟩
      · exact ⟨hd.c1, hd.lt⟩
      · exact ⟨hF.ranks.dia.c1, hF.ranks.dia.lt⟩
    obtain ⟨hdn, hplt⟩ := hdnp
    have hcs : ∀ j : Nat, j < n → ∃ (g2 : Nat) (b : Bool), w1.cell? ⟨p, 2, none⟩ = some (.slice (some ⟨g2, 0, none⟩) n n) ∧ w1.cell? ⟨g2, j, none⟩ = some (.bool b) ∧ b = (isP (la L j) && dwn L j) := by
      intro j hj
      rcases hcase with ⟨h0, hd⟩ | ⟨_, base, b, g2, g3, g4, g6, s, P, C, ids, _, hF⟩
      · omega
      · refine ⟨g2, sat s j, hF.ranks.dia.c2, hF.ranks.down.cell hj, ?_⟩
        cases hpj : isP (la L j) with
        | true => rw [hF.ranks.downs j hpj]; rfl
        | false => rw [hF.ranks.ndown j hj hpj]; rfl
    have HCS := Lib.hid hcs
    clear hok hcase hcs hsta
    by_cases h0 : i < 0
    · have q1 : decide (i < 0) = true := by simpa using h0
      have HF := Lib.hid (staE_bad HE.out (i := i) (fun h => by omega))
      clear h0
      go_wp2_with fail
      (try simp only [Exit.inBlock, Exit.then])
      refine ret_cellT rfl rfl rfl (HSS.out _ (Below.refl _ _) _ _) Tryd.underlying24 rfl (by kernel_rfl) rfl ?_
      exact sta_none HF.out (by omega) (HBS.out _ (Below.refl _ _) _ _) rfl
    · have q1 : decide (i < 0) = false := by simpa using h0
      by_cases h1 : (n : Int) ≤ i
      · have q2 : decide ((n : Int) ≤ i) = true := by simpa using h1
        have HF := Lib.hid (staE_bad HE.out (i := i) (fun h => by have := hLn.out; omega))
        clear h0 h1
        go_wp2_with fail
        (try simp only [Exit.inBlock, Exit.then])
        refine ret_cellT rfl rfl rfl (HSS.out _ (Below.refl _ _) _ _) Tryd.underlying24 rfl (by kernel_rfl) rfl ?_
        exact sta_none HF.out (by omega) (HBS.out _ (Below.refl _ _) _ _) rfl
      · have q2 : decide ((n : Int) ≤ i) = false := by simpa using h1
        obtain ⟨j, rfl⟩ : ∃ j : Nat, i = (j : Int) := ⟨i.toNat, by omega⟩
        have hjn : j < n := by omega
        obtain ⟨g2, b, d2, cd, hb⟩ := HCS.out j hjn
        have j0 : (0 : Int) ≤ (j : Int) := by omega
        have j1 : (j : Int) < (n : Int) := by omega
        have HB := Lib.hid hb
        clear h0 h1 hb hi64
        cases b with
        | false =>
          have HF := Lib.hid (staE_bad HE.out (i := (j : Int)) (fun h => by
            have e := HB.out
            rw [Int.toNat_natCast] at h
            rw [h.2.2.1, h.2.2.2] at e; cases e))
          go_wp2_with fail
          (try simp only [Exit.inBlock, Exit.then])
          refine ret_cellT rfl rfl rfl (HSS.out _ (Below.refl _ _) _ _) Tryd.underlying24 rfl (by kernel_rfl) rfl ?_
          exact sta_none HF.out (by omega) (HBS.out _ (Below.refl _ _) _ _) rfl
        | true =>
          have HF := Lib.hid (staE_ok HE.out (i := (j : Int)) (by
            have e := HB.out
            rw [Int.toNat_natCast]
            have e2 : (isP (la L j) && dwn L j) = true := e.symm
            simp only [Bool.and_eq_true] at e2
            exact ⟨by omega, by rw [hLn.out]; omega, e2.1, e2.2⟩))
          have hcl : ∀ wx, Below w1.heap.size w1 wx → Calls Tryd.prog 95 #[.slice A n c, .int .i64 j] wx fun e w' => ∃ A' c', e = .returned (.slice A' n c') ∧ OwnL w' wx.heap.size A' n c' (rotT L j) ∧ Below wx.heap.size wx w' := fun wx h => code_rotated j A n c L wx (hA.below (hb2.more h).below) (by omega) hc
          have k0 : ∀ wx, Below w1.heap.size w1 wx → wx.cell? ⟨w.heap.size, 0, none⟩ = some (.int .i64 (k : Int)) ∧ wx.cell? ⟨p, 1, none⟩ = some (.slice A n c) := fun wx h => ⟨(hb2.more h).c0, (h.cell (p := ⟨p, 1, none⟩) (by simp; omega)).trans hdn⟩
          have k1 : ∀ wx a1 a2, Below w1.heap.size w1 wx → ((wx.setCell ⟨w.heap.size + 1, 0, none⟩ a1).setCell ⟨w.heap.size + 1, 1, none⟩ a2).cell? ⟨w.heap.size, 0, none⟩ = some (.int .i64 (k : Int)) ∧ ((wx.setCell ⟨w.heap.size + 1, 0, none⟩ a1).setCell ⟨w.heap.size + 1, 1, none⟩ a2).cell? ⟨p, 1, none⟩ = some (.slice A n c) := fun wx a1 a2 h => by
            rw [World.cell?_setCell_other _ _ _ _ (by intro e; injection e with e; omega), World.cell?_setCell_other _ _ _ _ (by intro e; injection e with e; omega), World.cell?_setCell_other _ _ _ _ (by intro e; injection e with e; omega), World.cell?_setCell_other _ _ _ _ (by intro e; injection e with e; omega)]
            exact k0 wx h
          have KS := Lib.hid k1
          have HCL := Lib.hid hcl
          have KP := Lib.hid k0
          have HW := hb2.below
          have hlw : w.heap.size + 1 < w1.heap.size := hR1.lt
          clear hcl k0 k1 hbx hR0 hb1 r0 r1 z0 z1 HSS HBS HCS hb2
          go_wp2_with fail
          first
            | go_region_held3 (fun wx => wx.cell? ⟨w.heap.size, 0, none⟩ = some (.int .i64 (k : Int)) ∧ wx.cell? ⟨p, 1, none⟩ = some (.slice A n c)) (first | assumption | exact KP.out _ (Below.refl _ _).drew | exact KP.out _ (by assumption) | exact KS.out _ _ _ (by assumption))
                ((go_at_call 95; refine (HCL.out _ (Below.refl _ _).drew).mono ?_; rintro e wy ⟨A2, c2, rfl, hL2, hb3⟩; have hbz : Below w1.heap.size w1 wy := below_chain (Below.refl w1.heap.size w1).drew hb3 (Nat.le_refl _); have u0 : wy.cell? ⟨w.heap.size + 1, 0, none⟩ = some (.int .i64 0) := ((hR1.below hbz hlw).cell 0).trans rfl; have u1 : wy.cell? ⟨w.heap.size + 1, 1, none⟩ = some (.slice none 0 0) := ((hR1.below hbz hlw).cell 1).trans rfl; have u2 := (hR1.below hbz hlw).frozen 0; have u3 := (hR1.below hbz hlw).frozen 1))
            | fail
          all_goals
            have hRy := hR1.below (by assumption : Below w1.heap.size w1 wy) hlw
            have hG := copy_ends (w := w) (X := w1) (K := (k : Int)) hRy (by assumption : Below w1.heap.size w1 wy) HW hlw hL2
            clear x0 u0 u1 u2 u3 hRy
            go_wp2_with fail
            (try simp only [Exit.inBlock, Exit.then])
            refine ret_cellT rfl rfl rfl hG.1 Tryd.underlying24 rfl (by kernel_rfl) rfl ?_
            exact ⟨A2, n, c2, by unfold staK; rw [if_pos HF.out, HF.out]; rfl, by unfold staM; rw [if_pos HF.out, Int.toNat_natCast]; exact hG.2.1, hG.2.2⟩
  · have q : (E != 0) = true := by simpa using hz
    have HZ := Lib.hid hz
    clear hz hok hR0 hR1 hb1 hbx
    go_wp2_with fail
    (try simp only [Exit.inBlock, Exit.then])
    refine ret_cellT rfl rfl rfl (HSS.out _ (Below.refl _ _) _ _) Tryd.underlying24 rfl (by kernel_rfl) rfl ?_
    exact sta_none (by rw [staE_no (by rw [HE.out]; exact HZ.out), HE.out]) HZ.out (HBS.out _ (Below.refl _ _) _ _) rfl
end

section
open Go.RowKit
theorem slInfo : (Tryd.prog.info? 22).map (fun i => (i.zero, i.size, i.bytes)) = some (some (.slice none 0 0), 1, 24) := by kernel_rfl
theorem buildSS (A B : Option Addr) (n c m d : Nat) (w : World) : (Instr.buildSlice 127 2 #[(0, .slice A n c), (1, .slice B m d)]).run Tryd.prog w = .ok (.slice (some ⟨w.heap.size, 0, none⟩) 2 2) (w.alloc (.cells #[.slice A n c, .slice B m d] 22)) := by
  obtain ⟨i0, hi, hz0, hz1, hz2⟩ := info_parts slInfo
  refine run_buildSlice w _ _ 2 _ _ i0 _ Tryd.underlying127 hi hz0 (by rw [hz1]; omega) (by rw [hz1]; omega) ?_
  rw [hz1]
  kernel_rfl
theorem eqlNil (A : Option Addr) (n c : Nat) (w : World) : (binOp .eql 22 (.slice A n c) (.slice none 0 0)).run Tryd.prog w = .ok (.bool A.isNone) w := run_eql_slice_nil w _ _ A n c Tryd.underlying22
/-- What a copy leaves that is stored into the result's block q. -/
theorem copy_endsQ {w X wr : World} {q : Nat} {K : Int} {A : Option Addr} {n c : Nat} {M : List Lt} (hR : Blk wr q 24 #[.int .i64 0, .slice none 0 0]) (hb : Below X.heap.size X wr) (hbx : Below w.heap.size w X) (hq : w.heap.size ≤ q) (hX : q < X.heap.size) (h : OwnL wr X.heap.size A n c M) :
    Blk ((wr.setCell ⟨q, 0, none⟩ (.int .i64 K)).setCell ⟨q, 1, none⟩ (.slice A n c)) q 24 #[.int .i64 K, .slice A n c] ∧
    OwnL ((wr.setCell ⟨q, 0, none⟩ (.int .i64 K)).setCell ⟨q, 1, none⟩ (.slice A n c)) w.heap.size A n c M ∧
    Below w.heap.size w ((wr.setCell ⟨q, 0, none⟩ (.int .i64 K)).setCell ⟨q, 1, none⟩ (.slice A n c)) := by
  refine ⟨(hR.set_ 0 _).set_ 1 _, ?_, ((below_chain hbx hb (by omega)).setCell (p := ⟨q, 0, none⟩) hq (.int .i64 K)).setCell (p := ⟨q, 1, none⟩) hq (.slice A n c)⟩
  have gS := only_setCell (only_setCell (World.grownBy.refl wr (some q)) (p := ⟨q, 0, none⟩) (.inl rfl) (.int .i64 K)) (p := ⟨q, 1, none⟩) (.inl rfl) (.slice A n c)
  refine ⟨(h.row.kept gS ?_).mono (by omega), h.fits, h.le⟩
  cases hb : blk A with
  | none => exact .inl rfl
  | some q => exact .inr (by have := (h.row.lt q hb).1; simp; omega)
/-- The least of a list of candidates. -/
def bestO : List (List Lt) → List Lt
  | [] => []
  | c :: cs => cs.foldl pick c
theorem bestO_snoc {cs : List (List Lt)} {y : List Lt} (h : cs ≠ []) : bestO (cs ++ [y]) = pick (bestO cs) y := by
  cases cs with
  | nil => exact absurd rfl h
  | cons c cs => show (cs ++ [y]).foldl pick c = _; rw [List.foldl_append]; rfl
/-- The least so far, as the program holds it. -/
def Best (base : Nat) (wr : World) (n : Nat) (v : Value) (cs : List (List Lt)) : Prop :=
  (cs = [] ∧ v = .slice none 0 0) ∨ (cs ≠ [] ∧ ∃ B c', v = .slice B n c' ∧ OwnL wr base B n c' (bestO cs))
theorem Best.next {base n : Nat} {w w' : World} {v : Value} {cs : List (List Lt)} (h : Best base w n v cs) (hb : Below w.heap.size w w') : Best base w' n v cs := by
  rcases h with ⟨h1, h2⟩ | ⟨h1, B, c', h2, h3⟩
  · exact .inl ⟨h1, h2⟩
  · exact .inr ⟨h1, B, c', h2, h3.next hb⟩
theorem norm_best {K : Int} {L : List Lt} (hL : 0 < L.length) (hv : validB2 K L = true) : cndT L L.length ++ cndT (backL L) (backL L).length ≠ [] ∧ bestO (cndT L L.length ++ cndT (backL L) (backL L).length) = normL L := by
  obtain ⟨r, hr⟩ : ∃ r, cndT L L.length = renL L :: r := by
    have key : ∀ m, 0 < m → ∃ r, cndT L m = renL L :: r := by
      intro m
      induction m with
      | zero => intro h; omega
      | succ m ih =>
        intro _
        by_cases h0 : m = 0
        · subst h0
          refine ⟨[], ?_⟩
          rw [cnd_yes (by rw [first_of hv]; rfl), rot_zero]; rfl
        · obtain ⟨r, hr⟩ := ih (by omega)
          cases h : isP (la L m) && dwn L m with
          | true => exact ⟨r ++ [renL (rotT L m)], by rw [cnd_yes h, hr]; rfl⟩
          | false => exact ⟨r, by rw [cnd_no h, hr]⟩
    exact key _ hL
  unfold normL
  rw [hr]
  refine ⟨by simp, ?_⟩
  show (r ++ cndT (backL L) (backL L).length).foldl pick (renL L) = (r ++ cndT (backL L) (backL L).length).foldl pick (pick (renL L) (renL L))
  have : pick (renL L) (renL L) = renL L := by unfold pick; rw [bf_refl]; rfl
  rw [this]
def seqC (L : List Lt) (j i : Nat) : List (List Lt) := if j = 0 then cndT L i else if j = 1 then cndT L L.length ++ cndT (backL L) i else cndT L L.length ++ cndT (backL L) (backL L).length
set_option maxRecDepth 100000 in
set_option maxHeartbeats 12800000 in
theorem dia_normal (p k : Nat) (A : Option Addr) (n c : Nat) (L : List Lt) (w : World) (hd : DiaN w p k A n c L) (h0 : w.cell? ⟨p, 0, none⟩ = some (.int .i64 k)) (hA : Lets w A n L) (hs : Tame (k : Int) L) (hv : checkE (k : Int) L = 0) :
    Calls Tryd.prog 97 #[.pointer (some ⟨p, 0, none⟩)] w (GivesC w k (normL L)) := by
  have hle := hA.le
  have hLn := Lib.hid hA.len
  have hn4 : n ≤ 400 := by have := hs.len; have := hA.len; omega
  have hbc2 := build_code2
  have hss := buildSS
  have hen := eqlNil
  have HV := Lib.hid (check_parts hv)
  have hbk : (backL L).length = n := by
    rcases HV.out.2.2.2 with h | h
    · rw [List.length_eq_zero_iff] at h
      subst h
      exact hLn.out
    · rcases Nat.eq_zero_or_pos L.length with h2 | h2
      · rw [List.length_eq_zero_iff] at h2
        subst h2
        exact hLn.out
      · rw [back_len h2 h]; exact hLn.out
  have HBK := Lib.hid hbk
  have hdp := hd.2.1
  have hX0 : Below w.heap.size w (w.alloc (.cells #[.int .i64 0, .slice none 0 0] 24)) := (Below.refl _ _).alloc (Nat.le_refl _) _
  have hR0 : Blk (w.alloc (.cells #[.int .i64 0, .slice none 0 0] 24)) w.heap.size 24 #[.int .i64 0, .slice none 0 0] := Blk.new _ _ _
  have HSM := Lib.hid hs
  clear hs hv hbk
  go_enter Tryd.func97, Tryd.ntmps97
  go_upto_region 2 with fail
  generalize w.alloc (.cells #[.int .i64 0, .slice none 0 0] 24) = X at hX0 hR0 ⊢
  have hdX := hd.next hX0
  have hAX := hA.below hX0
  have hX1 := hR0.lt
  have d1 := hdX.1
  have dlt := hdX.2.1
  have dcap := hdX.2.2.1
  have hcl : ∀ wx, Below X.heap.size X wx → Calls Tryd.prog 91 #[.pointer (some ⟨p, 0, none⟩)] wx (GivesL wx (backL L)) := fun wx h => back_1 p k A n c L wx (hdX.next h) (hAX.below h) HSM.out
  have k1 : ∀ wx, Below X.heap.size X wx → wx.cell? ⟨p, 1, none⟩ = some (.slice A n c) := fun wx h => (h.cell (p := ⟨p, 1, none⟩) dlt).trans d1
  have HCL := Lib.hid hcl
  have KP := Lib.hid k1
  have KA := Lib.hid (show ∀ wx o, Below X.heap.size X wx → (wx.alloc o).cell? ⟨p, 1, none⟩ = some (.slice A n c) from fun wx o h => k1 _ (h.alloc h.size o))
  clear hcl k1
  go_cut [17, 18, 19] (fun v17 v18 v19 wz => ∃ (wx : World) (g : Nat) (A2 : Option Addr) (c2 : Nat), wx = wz ∧ v17 = .slice (some ⟨g, 0, none⟩) 2 2 ∧ v18 = .int .i64 2 ∧ v19 = .int .i64 0 ∧ Blk wx g 22 #[.slice A n c, .slice A2 n c2] ∧ Lets wx A2 n (backL L) ∧ n ≤ c2 ∧ Below X.heap.size X wx)
  case first =>
    go_region_held3 (fun wx => wx.cell? ⟨p, 1, none⟩ = some (.slice A n c)) (first | assumption | exact KP.out _ (Below.refl _ _).drew | exact KP.out _ (by assumption) | exact KA.out _ _ (by assumption))
      ((go_at_call 91; refine (HCL.out _ (Below.refl _ _).drew).mono ?_; rintro e wy ⟨A2, n2, c2, rfl, hL2, hb3⟩; have hbz : Below X.heap.size X wy := below_chain (Below.refl X.heap.size X).drew hb3 (Nat.le_refl _)))
    all_goals
      obtain rfl : n2 = n := by rw [← hL2.len, HBK.out]
      go_wp2_with fail
      go_meet
    all_goals
      exact ⟨_, _, A2, c2, rfl, rfl, rfl, rfl, Blk.new _ _ _, (hL2.alloc _).lets, hL2.row.cap, hbz.alloc hbz.size _⟩
  case rest =>
    obtain ⟨wx, g, A2, c2, rfl, rfl, rfl, rfl, hbG, hA2, hc2, hbx⟩ := hcut
    have hbw := below_chain hX0 hbx (by omega)
    have hsz := hbx.size
    have hglt := hbG.lt
    have hAx := hA.below hbw
    have hcase : ∀ j : Nat, j < 2 → ∃ Aj cj Xj, wx.cell? ⟨g, j, none⟩ = some (.slice Aj n cj) ∧ Lets wx Aj n Xj ∧ n ≤ cj ∧ seqC L j n = seqC L (j + 1) 0 ∧ (∀ i, seqC L j i = seqC L j 0 ++ cndT Xj i) := by
      intro j hj
      rcases (show j = 0 ∨ j = 1 by omega) with rfl | rfl
      · refine ⟨A, c, L, (hbG.cell 0).trans rfl, hAx, dcap, ?_, fun i => ?_⟩
        · show cndT L n = cndT L L.length ++ cndT (backL L) 0
          rw [hLn.out]; simp [cndT]
        · show cndT L i = cndT L 0 ++ cndT L i
          simp [cndT]
      · refine ⟨A2, c2, backL L, (hbG.cell 1).trans rfl, hA2, hc2, ?_, fun i => ?_⟩
        · show cndT L L.length ++ cndT (backL L) n = cndT L L.length ++ cndT (backL L) (backL L).length
          rw [HBK.out]
        · show cndT L L.length ++ cndT (backL L) i = cndT L L.length ++ cndT (backL L) 0 ++ cndT (backL L) i
          simp [cndT]
    have HC := Lib.hid hcase
    have hst : Best X.heap.size wx n (.slice none 0 0) (seqC L 0 0) := .inl ⟨rfl, rfl⟩
    clear hcase hbG hA2 hc2 hss
    go_wp2_with fail
    go_loopw [3, 5, 6, 7, 8, 9, 19] (fun v3 _ _ _ _ _ v19 wr => ∃ (j : Nat) (u : Value), u = v3 ∧ j ≤ 2 ∧ v19 = .int .i64 j ∧ Best X.heap.size wr n u (seqC L j 0) ∧ Below wx.heap.size wx wr) (fun _ _ _ _ _ _ v19 _ => 2 - (intOf v19).toNat)
    case atStart => exact ⟨0, _, rfl, by omega, rfl, hst, Below.refl _ _⟩
    case round =>
      obtain ⟨j, u, rfl, hj, rfl, hB, hbr⟩ := hrel
      clear hst
      by_cases hlt : j < 2
      · obtain ⟨Aj, cj, Xj, cc, hL0, hcj, hnext, hsplit⟩ := HC.out j hlt
        have j0 : (0 : Int) ≤ (j : Int) := by omega
        have j1 : (j : Int) < 2 := by omega
        have cr : wr.cell? ⟨g, j, none⟩ = some (.slice Aj n cj) := (hbr.cell (p := ⟨g, j, none⟩) hglt).trans cc
        have HN := Lib.hid hnext
        have HSP := Lib.hid hsplit
        clear cc hnext hsplit
        go_wp2_with fail
        obtain ⟨wo, rfl⟩ : ∃ wo : World, wo = wr := ⟨_, rfl⟩
        go_loopw [3, 6, 7, 8, 9, 25] (fun v3 v6 _ _ _ v25 wi => ∃ (i : Nat), i ≤ n ∧ v25 = .int .i64 i ∧ v6 = .bool (dwn Xj i) ∧ Best X.heap.size wi n v3 (seqC L j i) ∧ Below wx.heap.size wx wi) (fun _ _ _ _ _ v25 _ => n - (intOf v25).toNat)
        case atStart => exact ⟨0, by omega, rfl, rfl, hB, hbr⟩
        case round =>
          obtain ⟨i, hi, rfl, rfl, hBi, hbi⟩ := hrel
          clear hB hbr cr
          by_cases hli : i < n
          · obtain ⟨ga, oa, rfl, hga, hxa, hok⟩ := (hL0.below hbi).at_ hli
            obtain ⟨y0, y1, y2, y3, y4, y5⟩ := hxa
            have i0 : (0 : Int) ≤ (i : Int) := by omega
            have i1 : (i : Int) < (n : Int) := by omega
            clear hok
            have hBl := Blk.new wr 46 #[.int .i64 (la Xj i).kind, .int .i64 (la Xj i).gate, .int .i64 (la Xj i).rank, .int .i64 (la Xj i).id, .int .i64 (la Xj i).sign, .bool (la Xj i).over]
            have hWr : Below wr.heap.size wr (wr.alloc (.cells #[.int .i64 (la Xj i).kind, .int .i64 (la Xj i).gate, .int .i64 (la Xj i).rank, .int .i64 (la Xj i).id, .int .i64 (la Xj i).sign, .bool (la Xj i).over] 46)) := (Below.refl _ _).alloc (Nat.le_refl _) _
            go_upto_region 9 with fail
            generalize wr.alloc (.cells #[.int .i64 (la Xj i).kind, .int .i64 (la Xj i).gate, .int .i64 (la Xj i).rank, .int .i64 (la Xj i).id, .int .i64 (la Xj i).sign, .bool (la Xj i).over] 46) = W at hBl hWr ⊢
            have hBW := hBi.next hWr
            have hbW := below_chain hbi hWr hbi.size
            have s0 : W.cell? ⟨wr.heap.size, 0, none⟩ = some (.int .i64 (la Xj i).kind) := (hBl.cell 0).trans rfl
            clear y0 y1 y2 y3 y4 y5 hBi hbi hWr hBl
            by_cases hk1 : (la Xj i).kind = 1
            · have q1 : ((la Xj i).kind != 1) = false := by simpa using hk1
              have hp := isP_t hk1
              have HDS := Lib.hid (dwn_step (L := Xj) (i := i) hp)
              have HP := Lib.hid hp
              clear hk1 hp
              obtain ⟨dn, hdn⟩ : ∃ dn, dwn Xj i = dn := ⟨_, rfl⟩
              have HDN := Lib.hid hdn
              rw [hdn]
              clear hdn
              cases dn with
              | false =>
                have HSQ := Lib.hid (show seqC L j i = seqC L j (i + 1) by rw [HSP.out i, HSP.out (i + 1), cnd_no (by rw [HDN.out]; simp)])
                go_wp2_with fail
                go_roundw
                case rel => exact ⟨i + 1, by omega, by go_num, by rw [HDS.out, HDN.out]; rfl, by rw [← HSQ.out]; exact hBW, hbW⟩
                case measure => simp [intOf]; omega
              | true =>
                have HSQ := Lib.hid (show seqC L j (i + 1) = seqC L j i ++ [renL (rotT Xj i)] by rw [HSP.out i, HSP.out (i + 1), cnd_yes (by rw [HP.out, HDN.out]; rfl), List.append_assoc])
                go_wp2_with fail
                refine (code_rotated i _ n cj Xj W (hL0.below hbW) (by omega) hcj).mono ?_
                rintro e w5 ⟨A5, c5, rfl, hL5, hb5⟩
                have hB5 := hBW.next hb5
                have hbw5 := below_chain hbW hb5 hbW.size
                clear hBW hbW
                go_wp2_with fail
                refine (code_renamed A5 n c5 _ w5 hL5.lets (by omega)).mono ?_
                rintro e w6 ⟨A6, c6, rfl, hL6, hb6⟩
                have hB6 := hB5.next hb6
                have hbw6 := below_chain hbw5 hb6 hbw5.size
                have hL7 : OwnL w6 X.heap.size A6 n c6 (renL (rotT Xj i)) := hL6.mono (by have := hbw5.size; omega)
                clear hB5 hbw5 hL5 hL6
                rcases hB6 with ⟨e1, rfl⟩ | ⟨e1, B, cB, rfl, hLB⟩
                · have HE1 := Lib.hid e1
                  have hnn : (none : Option Addr).isNone = true := rfl
                  clear e1
                  go_wp2_with fail
                  go_roundw
                  case rel => exact ⟨i + 1, by omega, by go_num, by rw [HDS.out, HDN.out]; rfl, .inr ⟨by rw [HSQ.out]; simp, A6, c6, rfl, by rw [HSQ.out, HE1.out]; exact hL7⟩, hbw6⟩
                  case measure => simp [intOf]; omega
                · obtain ⟨gb, ob, rfl, hgb, _, _⟩ := hLB.lets.at_ hli
                  have HE1 := Lib.hid e1
                  obtain ⟨R, hR⟩ : ∃ R, bfB (renL (rotT Xj i)) (bestO (seqC L j i)) = R := ⟨_, rfl⟩
                  have hbf := code_before A6 (some ⟨gb, ob, none⟩) n c6 cB _ _ w6 hL7.lets hLB.lets
                  rw [hR] at hbf
                  have HBF := Lib.hid hbf
                  have HR := Lib.hid hR
                  have hnn : (some (⟨gb, ob, none⟩ : Addr)).isNone = false := rfl
                  clear e1 hbf hR
                  go_wp2_with fail
                  refine HBF.out.mono ?_
                  rintro e w8 ⟨rfl, hb8⟩
                  have hbw8 := below_chain hbw6 hb8 hbw6.size
                  have hL8 := hL7.next hb8
                  have hLB8 := hLB.next hb8
                  clear hbw6 hL7 hLB
                  cases R with
                  | true =>
                    go_wp2_with fail
                    go_roundw
                    case rel => exact ⟨i + 1, by omega, by go_num, by rw [HDS.out, HDN.out]; rfl, .inr ⟨by rw [HSQ.out]; simp, A6, c6, rfl, by rw [HSQ.out, bestO_snoc HE1.out]; unfold pick; rw [if_pos HR.out]; exact hL8⟩, hbw8⟩
                    case measure => simp [intOf]; omega
                  | false =>
                    go_wp2_with fail
                    go_roundw
                    case rel => exact ⟨i + 1, by omega, by go_num, by rw [HDS.out, HDN.out]; rfl, .inr ⟨by rw [HSQ.out]; simp, _, cB, rfl, by rw [HSQ.out, bestO_snoc HE1.out]; unfold pick; rw [if_neg (by rw [HR.out]; simp)]; exact hLB8⟩, hbw8⟩
                    case measure => simp [intOf]; omega
            · have q1 : ((la Xj i).kind != 1) = true := by simpa using hk1
              have HDS := Lib.hid (dwn_stay (L := Xj) (i := i) (isP_f hk1))
              have HSQ := Lib.hid (show seqC L j i = seqC L j (i + 1) by rw [HSP.out i, HSP.out (i + 1), cnd_no (by rw [isP_f hk1]; rfl)])
              clear hk1
              go_wp2_with fail
              go_roundw
              case rel => exact ⟨i + 1, by omega, by go_num, by rw [HDS.out], by rw [← HSQ.out]; exact hBW, hbW⟩
              case measure => simp [intOf]; omega
          · have hin : i = n := by omega
            subst hin
            have i1 : ¬ (i : Int) < (i : Int) := by omega
            rw [HN.out] at hBi
            go_wp2_with fail
            go_roundw
            case rel => exact ⟨j + 1, _, rfl, by omega, by go_num, hBi, hbi⟩
            case measure => simp [intOf]; omega
      · have hj2 : j = 2 := by omega
        subst hj2
        have z0 : wr.cell? ⟨p, 0, none⟩ = some (.int .i64 k) := (below_chain hbw hbr (by omega)).cell (p := ⟨p, 0, none⟩) hdp |>.trans h0
        have hbXr := below_chain hbx hbr hbx.size
        have hRr := hR0.below hbXr hX1
        have r0 : wr.cell? ⟨w.heap.size, 0, none⟩ = some (.int .i64 0) := (hRr.cell 0).trans rfl
        have r1 : wr.cell? ⟨w.heap.size, 1, none⟩ = some (.slice none 0 0) := (hRr.cell 1).trans rfl
        have f0 := hRr.frozen 0
        have f1 := hRr.frozen 1
        have hBest : ∃ A' n' c', u = .slice A' n' c' ∧ OwnL wr X.heap.size A' n' c' (normL L) := by
          rcases Nat.eq_zero_or_pos L.length with hz | hz
          · rw [List.length_eq_zero_iff] at hz
            subst hz
            rcases hB with ⟨_, e2⟩ | ⟨e1, _⟩
            · exact ⟨none, 0, 0, e2, OwnL.nil _ _⟩
            · exact absurd rfl e1
          · have hv2 : validB2 (k : Int) L = true := by
              rcases HV.out.2.2.2 with h | h
              · omega
              · exact h
            obtain ⟨b1, b2⟩ := norm_best hz hv2
            rcases hB with ⟨e1, _⟩ | ⟨_, B, c', e2, e3⟩
            · exact absurd e1 b1
            · exact ⟨B, n, c', e2, by rw [← b2]; exact e3⟩
        obtain ⟨A', n', c', rfl, hLf⟩ := hBest
        have hG := copy_endsQ (w := w) (X := X) (K := (k : Int)) hRr hbXr hX0 (Nat.le_refl _) hX1 hLf
        clear hRr hLf hB
        go_wp2_with fail
        (try simp only [Exit.inBlock, Exit.then])
        refine ret_cellB rfl rfl hG.1 Tryd.underlying24 rfl (by kernel_rfl) rfl ?_
        exact ⟨A', n', c', rfl, hG.2.1, hG.2.2⟩
end

section
open Go.RowKit
set_option maxRecDepth 100000 in
set_option maxHeartbeats 6400000 in
theorem code_Normal (K : Int) (A : Option Addr) (n c : Nat) (L : List Lt) (w : World) (hA : Lets w A n L) (hc : n ≤ c) :
    Calls Tryd.prog 49 #[.agg #[.int .i64 K, .slice A n c]] w (GivesCE w (keepK K L) (keepL K L (normL L)) (checkE K L)) := by
  have hbc0 := build_code0
  have hbx : Boxed w ((w.alloc (.cells #[.int .i64 K, .slice A n c] 24)).alloc (.cells #[.int .i64 0, .slice none 0 0] 24)) K A n c := (Boxed.refl w K A n c).alloc _
  have hR0 : Blk ((w.alloc (.cells #[.int .i64 K, .slice A n c] 24)).alloc (.cells #[.int .i64 0, .slice none 0 0] 24)) (w.heap.size + 1) 24 #[.int .i64 0, .slice none 0 0] := heap_alloc2_new w _ _
  obtain ⟨E, hE⟩ : ∃ E, checkE K L = E := ⟨_, rfl⟩
  have HE := Lib.hid hE
  clear hE
  go_enter Tryd.func49, Tryd.ntmps49
  go_wp2_with fail
  generalize (w.alloc (.cells #[.int .i64 K, .slice A n c] 24)).alloc (.cells #[.int .i64 0, .slice none 0 0] 24) = X at hbx hR0 ⊢
  refine (code_read K A n c L _ (hA.below hbx.below)).mono ?_
  rintro e w1 ⟨v, rfl, hb1, hok⟩
  have hX := hR0.lt
  have hR1 := hR0.below hb1 hX
  have hb2 := hbx.more hb1
  have r0 : w1.cell? ⟨w.heap.size + 1, 0, none⟩ = some (.int .i64 0) := (hR1.cell 0).trans rfl
  have r1 : w1.cell? ⟨w.heap.size + 1, 1, none⟩ = some (.slice none 0 0) := (hR1.cell 1).trans rfl
  have z0 := hR1.frozen 0
  have z1 := hR1.frozen 1
  rw [HE.out]
  by_cases hz : E = 0
  · subst hz
    obtain ⟨p, rfl, k, rfl, hk40, hn400, hp, hcase⟩ := hok HE.out
    have HSM := Lib.hid (tame_of_check HE.out)
    have hdn : DiaN w1 p k A n c L := by
      rcases hcase with ⟨h0, hd⟩ | ⟨_, base, b, g2, g3, g4, g6, s, P, C, ids, _, hF⟩
      · exact ⟨hd.c1, hd.lt, hc, fun h => by omega⟩
      · exact ⟨hF.ranks.dia.c1, hF.ranks.dia.lt, hc, fun _ => ⟨base, b, g2, g3, g4, g6, s, P, C, ids, hF⟩⟩
    have hd0 : w1.cell? ⟨p, 0, none⟩ = some (.int .i64 k) := by
      rcases hcase with ⟨h0, hd⟩ | ⟨_, base, b, g2, g3, g4, g6, s, P, C, ids, _, hF⟩
      · exact hd.c0
      · exact hF.ranks.dia.c0
    have HCL := Lib.hid (dia_normal p k A n c L w1 hdn hd0 (hA.below hb2.below) HSM.out HE.out)
    have HW := hb2.below
    have hlw : w.heap.size + 1 < w1.heap.size := hR1.lt
    clear hok hcase hdn hd0 hbx hR0 r0 r1 z0 z1
    go_wp2_with fail
    refine HCL.out.mono ?_
    rintro e w2 ⟨A2, n2, c2, rfl, hL2, hb3⟩
    have hR2 := hR1.below hb3 hlw
    have u0 : w2.cell? ⟨w.heap.size + 1, 0, none⟩ = some (.int .i64 0) := (hR2.cell 0).trans rfl
    have u1 : w2.cell? ⟨w.heap.size + 1, 1, none⟩ = some (.slice none 0 0) := (hR2.cell 1).trans rfl
    have u2 := hR2.frozen 0
    have u3 := hR2.frozen 1
    have hG := copy_ends (w := w) (X := w1) (K := (k : Int)) hR2 hb3 HW hlw hL2
    clear hR1 hR2 hb2 hb1
    go_wp2_with fail
    (try simp only [Exit.inBlock, Exit.then])
    refine ret_cellT rfl rfl rfl hG.1 Tryd.underlying24 rfl (by kernel_rfl) rfl ?_
    exact ⟨A2, n2, c2, by rw [keepK_ok HE.out, HE.out]; rfl, by rw [keepL_ok HE.out]; exact hG.2.1, hG.2.2⟩
  · have q : (E != 0) = true := by simpa using hz
    have hS : Blk ((w1.setCell ⟨w.heap.size + 1, 0, none⟩ (.int .i64 0)).setCell ⟨w.heap.size + 1, 1, none⟩ (.slice none 0 0)) (w.heap.size + 1) 24 #[.int .i64 0, .slice none 0 0] := (hR1.set_ 0 _).set_ 1 _
    have hbS := (hb2.below.setCell (p := ⟨w.heap.size + 1, 0, none⟩) (by simp) (.int .i64 0)).setCell (p := ⟨w.heap.size + 1, 1, none⟩) (by simp) (.slice none 0 0)
    have HZ := Lib.hid hz
    clear hz hok hR0 hR1 hb1 hbx
    go_wp2_with fail
    (try simp only [Exit.inBlock, Exit.then])
    refine ret_cellT rfl rfl rfl hS Tryd.underlying24 rfl (by kernel_rfl) rfl ?_
    exact ⟨none, 0, 0, by rw [keepK_no (by rw [HE.out]; exact HZ.out), HE.out]; rfl, by rw [keepL_no (by rw [HE.out]; exact HZ.out)]; exact OwnL.nil _ _, hbS⟩
set_option maxRecDepth 100000 in
set_option maxHeartbeats 3200000 in
theorem slices_equalL (A B : Option Addr) (n m c d : Nat) (L M : List Lt) (w : World) (hA : Lets w A n L) (hB : Lets w B m M) :
    Calls Tryd.prog 102 #[.slice A n c, .slice B m d] w fun e w' => e = .returned (.bool (decide (L = M))) ∧ Below w.heap.size w w' := by
  have hle := hA.le
  have hle2 := hB.le
  have hLn := hA.len
  have hMn := hB.len
  by_cases hnm : n = m
  · have hnb : ((n : Int) != (m : Int)) = false := by simp; omega
    have HN := Lib.hid hnm
    have HL := Lib.hid hLn
    have HM := Lib.hid hMn
    clear hnm hLn hMn
    go_enter Tryd.func102, Tryd.ntmps102
    go_wp2_with fail
    have hst : Hid (∀ j, j < 0 → la L j = la M j) := Lib.hid (fun j hj => by omega)
    go_loopw [13] (fun v5 wr => ∃ i : Nat, i ≤ n ∧ v5 = .int .i64 i ∧ Below w.heap.size w wr ∧ Hid (∀ j, j < i → la L j = la M j)) (fun v5 _ => n - (intOf v5).toNat)
    case atStart => exact ⟨0, Nat.zero_le _, rfl, Below.refl _ _, hst⟩
    case round =>
      obtain ⟨i, hi, rfl, hbr, HS⟩ := hrel
      clear hst
      by_cases hlt : i < n
      · obtain ⟨g1, o1, rfl, hg1, hx, _⟩ := (hA.below hbr).at_ hlt
        obtain ⟨g2, o2, rfl, hg2, hy, _⟩ := (hB.below hbr).at_ (k := i) (by have := HN.out; omega)
        obtain ⟨x0, x1, x2, x3, x4, x5⟩ := hx
        obtain ⟨y0, y1, y2, y3, y4, y5⟩ := hy
        have i0 : (0 : Int) ≤ (i : Int) := by omega
        have i1 : (i : Int) < (n : Int) := by omega
        have i2 : (i : Int) < (m : Int) := by have := HN.out; omega
        have heq := fun w => eqLt (la L i) (la M i) w
        cases hq : ltB (la L i) (la M i) with
        | true =>
          have HS1 := Lib.hid (show ∀ j, j < i + 1 → la L j = la M j from fun j hj => by
            rcases Nat.decEq j i with e | e
            · exact HS.out j (by omega)
            · subst e; exact ltB_iff.1 hq)
          clear HS
          go_wp2_with fail
          go_quiet (fail)
          go_wp2_with fail
          go_roundw
          case rel => exact ⟨i + 1, by omega, by go_num, below_drewN hbr _, HS1⟩
          case measure => simp [intOf]; omega
        | false =>
          have hf := Lib.hid (show decide (L = M) = false by
            simp only [decide_eq_false_iff_not]
            intro e
            rw [e] at hq
            have := ltB_iff (x := la M i) (y := la M i)
            rw [this.2 rfl] at hq
            cases hq)
          clear HS
          go_wp2_with fail
          go_quiet (fail)
          go_wp2_with fail
          go_ret
          exact ⟨ret_bool hf.out.symm, below_drewN hbr _⟩
      · have hin : i = n := by omega
        have hf := Lib.hid (show decide (L = M) = true by
          simp only [decide_eq_true_eq]
          apply List.ext_getElem?
          intro j
          by_cases hj : j < n
          · rw [la_get (by rw [HL.out]; exact hj), la_get (by rw [HM.out, ← HN.out]; exact hj), HS.out j (by omega)]
          · rw [List.getElem?_eq_none (by rw [HL.out]; omega), List.getElem?_eq_none (by rw [HM.out, ← HN.out]; omega)])
        have i1 : ¬ (i : Int) < (n : Int) := by omega
        clear HS hin
        go_wp2_with fail
        go_ret
        exact ⟨ret_bool hf.out.symm, hbr⟩
  · have hnb : ((n : Int) != (m : Int)) = true := by simp; omega
    have hf := Lib.hid (show decide (L = M) = false by
      have : L ≠ M := fun e => hnm (by rw [← hLn, ← hMn, e])
      simp [this])
    clear hnm hLn hMn
    go_enter Tryd.func102, Tryd.ntmps102
    go_wp2_with fail
    go_ret
    exact ⟨ret_bool hf.out.symm, Below.refl _ _⟩
def samE (K : Int) (L : List Lt) (K2 : Int) (M : List Lt) : Int := if checkE K L ≠ 0 then checkE K L else checkE K2 M
def samV (K : Int) (L : List Lt) (K2 : Int) (M : List Lt) : Bool := if samE K L K2 M = 0 then K == K2 && decide (normL L = normL M) else false
theorem samV_no {K K2 : Int} {L M : List Lt} (h : samE K L K2 M ≠ 0) : samV K L K2 M = false := by unfold samV; rw [if_neg h]
theorem samV_ok {K K2 : Int} {L M : List Lt} (h : checkE K L = 0) (h2 : checkE K2 M = 0) : samE K L K2 M = 0 ∧ samV K L K2 M = (K == K2 && decide (normL L = normL M)) := by
  have : samE K L K2 M = 0 := by unfold samE; rw [if_neg (by rw [h]; simp), h2]
  exact ⟨this, by unfold samV; rw [if_pos this]⟩
set_option maxRecDepth 100000 in
set_option maxHeartbeats 6400000 in
theorem code_Same (K1 K2 : Int) (A B : Option Addr) (n c m d : Nat) (L M : List Lt) (w : World) (hA : Lets w A n L) (hB : Lets w B m M) (hc : n ≤ c) (hd : m ≤ d) :
    Calls Tryd.prog 53 #[.agg #[.int .i64 K1, .slice A n c], .agg #[.int .i64 K2, .slice B m d]] w fun e w' => e = .returned (.tuple #[.bool (samV K1 L K2 M), .int .i64 (samE K1 L K2 M)]) ∧ Below w.heap.size w w' := by
  have hb2 : Below w.heap.size w ((w.alloc (.cells #[.int .i64 K1, .slice A n c] 24)).alloc (.cells #[.int .i64 K2, .slice B m d] 24)) := ((Below.refl _ _).alloc (Nat.le_refl _) _).alloc (by simp) _
  have bB : Blk ((w.alloc (.cells #[.int .i64 K1, .slice A n c] 24)).alloc (.cells #[.int .i64 K2, .slice B m d] 24)) (w.heap.size + 1) 24 #[.int .i64 K2, .slice B m d] := heap_alloc2_new w _ _
  obtain ⟨E, hE⟩ : ∃ E, checkE K1 L = E := ⟨_, rfl⟩
  obtain ⟨F, hF⟩ : ∃ F, checkE K2 M = F := ⟨_, rfl⟩
  have HE := Lib.hid hE
  have HF := Lib.hid hF
  obtain ⟨k1, hk1⟩ : ∃ k1, keepK K1 L = k1 := ⟨_, rfl⟩
  obtain ⟨k2, hk2⟩ : ∃ k2, keepK K2 M = k2 := ⟨_, rfl⟩
  obtain ⟨M1, hM1⟩ : ∃ M1, keepL K1 L (normL L) = M1 := ⟨_, rfl⟩
  obtain ⟨M2, hM2⟩ : ∃ M2, keepL K2 M (normL M) = M2 := ⟨_, rfl⟩
  have hn1 := fun wx h => code_Normal K1 A n c L wx h hc
  have hn2 := fun wx h => code_Normal K2 B m d M wx h hd
  rw [hk1, hM1, hE] at hn1
  rw [hk2, hM2, hF] at hn2
  have HN1 := Lib.hid hn1
  have HN2 := Lib.hid hn2
  have Hk1 := Lib.hid hk1
  have Hk2 := Lib.hid hk2
  have HM1 := Lib.hid hM1
  have HM2 := Lib.hid hM2
  obtain ⟨V, hV⟩ : ∃ V, samV K1 L K2 M = V := ⟨_, rfl⟩
  obtain ⟨S, hS⟩ : ∃ S, samE K1 L K2 M = S := ⟨_, rfl⟩
  rw [hV, hS]
  have HV := Lib.hid hV
  have HS := Lib.hid hS
  clear hE hF hn1 hn2 hk1 hk2 hM1 hM2 hV hS
  go_enter Tryd.func53, Tryd.ntmps53
  go_wp2_with fail
  generalize (w.alloc (.cells #[.int .i64 K1, .slice A n c] 24)).alloc (.cells #[.int .i64 K2, .slice B m d] 24) = X at hb2 bB ⊢
  refine (HN1.out _ (hA.below hb2)).mono ?_
  rintro e u1 ⟨A1, n1, r1, rfl, hL1, hb1⟩
  have hX := bB.lt
  have bB1 := (bB.below hb1 hX).alloc (.cells #[.int .i64 k1, .slice A1 n1 r1] 24)
  have hbw := (below_chain hb2 hb1 hb2.size).alloc (by have := hb1.size; have := hb2.size; omega) (.cells #[.int .i64 k1, .slice A1 n1 r1] 24)
  have hB1 := Blk.new u1 24 #[.int .i64 k1, .slice A1 n1 r1]
  have hT1 := hL1.lets.alloc (.cells #[.int .i64 k1, .slice A1 n1 r1] 24)
  clear hb2 bB hb1 hL1
  go_upto_region 2 with fail
  generalize u1.alloc (.cells #[.int .i64 k1, .slice A1 n1 r1] 24) = W1 at bB1 hbw hB1 hT1 ⊢
  by_cases hz : E = 0
  · have q : (E != 0) = false := by simpa using hz
    have HZ := Lib.hid hz
    have y0 : W1.cell? ⟨w.heap.size + 1, 0, none⟩ = some (.int .i64 K2) := (bB1.cell 0).trans rfl
    have y1 : W1.cell? ⟨w.heap.size + 1, 1, none⟩ = some (.slice B m d) := (bB1.cell 1).trans rfl
    clear hz
    go_wp2_with fail
    refine (HN2.out _ (hB.below hbw)).mono ?_
    rintro e u2 ⟨A2, n2, r2, rfl, hL2, hb3⟩
    have hbw2 := (below_chain hbw hb3 hbw.size).alloc (by have := hb3.size; have := hbw.size; omega) (.cells #[.int .i64 k2, .slice A2 n2 r2] 24)
    have hC1 := (hB1.below hb3 hB1.lt).alloc (.cells #[.int .i64 k2, .slice A2 n2 r2] 24)
    have hC2 := Blk.new u2 24 #[.int .i64 k2, .slice A2 n2 r2]
    have hD1 := (hT1.below hb3).alloc (.cells #[.int .i64 k2, .slice A2 n2 r2] 24)
    have hD2 := hL2.lets.alloc (.cells #[.int .i64 k2, .slice A2 n2 r2] 24)
    clear hbw hB1 hT1 y0 y1 bB1 hb3 hL2
    go_upto_region 5 with fail
    generalize u2.alloc (.cells #[.int .i64 k2, .slice A2 n2 r2] 24) = W2 at hbw2 hC1 hC2 hD1 hD2 ⊢
    by_cases hf : F = 0
    · have q2 : (F != 0) = false := by simpa using hf
      have p0 : W2.cell? ⟨u1.heap.size, 0, none⟩ = some (.int .i64 k1) := (hC1.cell 0).trans rfl
      have p1 : W2.cell? ⟨u1.heap.size, 1, none⟩ = some (.slice A1 n1 r1) := (hC1.cell 1).trans rfl
      have s0 : W2.cell? ⟨u2.heap.size, 0, none⟩ = some (.int .i64 k2) := (hC2.cell 0).trans rfl
      have s1 : W2.cell? ⟨u2.heap.size, 1, none⟩ = some (.slice A2 n2 r2) := (hC2.cell 1).trans rfl
      have HFZ := Lib.hid hf
      have hfin := Lib.hid (show S = 0 ∧ V = (k1 == k2 && decide (M1 = M2)) by
        have e1 := HE.out.trans HZ.out
        have e2 := HF.out.trans HFZ.out
        obtain ⟨a, b⟩ := samV_ok e1 e2
        rw [← HS.out, ← HV.out, a, b, ← Hk1.out, ← Hk2.out, ← HM1.out, ← HM2.out, keepK_ok e1, keepK_ok e2, keepL_ok e1, keepL_ok e2]
        exact ⟨rfl, rfl⟩)
      clear hf
      by_cases hk : k1 = k2
      · have q3 : (k1 == k2) = true := by simpa using hk
        have HQ := Lib.hid q3
        clear hk
        go_wp2_with fail
        refine (slices_equalL _ _ _ _ _ _ _ _ _ hD1 hD2).mono ?_
        rintro e w5 ⟨rfl, hb5⟩
        go_wp2_with fail
        go_ret2
        exact ⟨by rw [hfin.out.1, hfin.out.2, HQ.out]; rfl, below_chain hbw2 hb5 hbw2.size⟩
      · have q3 : (k1 == k2) = false := by simpa using hk
        have HQ := Lib.hid q3
        clear hk
        go_wp2_with fail
        go_ret2
        exact ⟨by rw [hfin.out.1, hfin.out.2, HQ.out]; rfl, hbw2⟩
    · have q2 : (F != 0) = true := by simpa using hf
      have hfin := Lib.hid (show S = F ∧ V = false by
        have e1 := HE.out.trans HZ.out
        have e3 : samE K1 L K2 M = F := by unfold samE; rw [if_neg (by rw [e1]; simp)]; exact HF.out
        exact ⟨by rw [← HS.out, e3], by rw [← HV.out]; exact samV_no (by rw [e3]; exact hf)⟩)
      clear hf
      go_wp2_with fail
      go_ret2
      exact ⟨by rw [hfin.out.1, hfin.out.2]; rfl, hbw2⟩
  · have q : (E != 0) = true := by simpa using hz
    have hfin := Lib.hid (show S = E ∧ V = false by
      have e3 : samE K1 L K2 M = E := by unfold samE; rw [if_pos (by rw [HE.out]; exact hz)]; exact HE.out
      exact ⟨by rw [← HS.out, e3], by rw [← HV.out]; exact samV_no (by rw [e3]; exact hz)⟩)
    clear hz
    go_wp2_with fail
    go_ret2
    exact ⟨by rw [hfin.out.1, hfin.out.2]; rfl, hbw⟩

set_option maxRecDepth 100000 in
set_option maxHeartbeats 6400000 in
theorem law_equal (K1 K2 : Int) (A B : Option Addr) (n c m d : Nat) (L M : List Lt) (w : World) (hA : Lets w A n L) (hB : Lets w B m M) (hc : n ≤ c) (hd : m ≤ d) (h1 : checkE K1 L = 0) (h2 : checkE K2 M = 0) :
    Calls Tryd.prog 61 #[.agg #[.int .i64 K1, .slice A n c], .agg #[.int .i64 K2, .slice B m d]] w fun e w' => e = .returned (.bool (K1 == K2 && decide (normL L = normL M))) ∧ Below w.heap.size w w' := by
  have hb2 : Below w.heap.size w ((w.alloc (.cells #[.int .i64 K1, .slice A n c] 24)).alloc (.cells #[.int .i64 K2, .slice B m d] 24)) := ((Below.refl _ _).alloc (Nat.le_refl _) _).alloc (by simp) _
  have bB : Blk ((w.alloc (.cells #[.int .i64 K1, .slice A n c] 24)).alloc (.cells #[.int .i64 K2, .slice B m d] 24)) (w.heap.size + 1) 24 #[.int .i64 K2, .slice B m d] := heap_alloc2_new w _ _
  have hn1 := fun wx h => code_Normal K1 A n c L wx h hc
  have hn2 := fun wx h => code_Normal K2 B m d M wx h hd
  rw [keepK_ok h1, keepL_ok h1, h1] at hn1
  rw [keepK_ok h2, keepL_ok h2, h2] at hn2
  have HN1 := Lib.hid hn1
  have HN2 := Lib.hid hn2
  clear hn1 hn2 h1 h2
  go_enter Tryd.func61, Tryd.ntmps61
  go_wp2_with fail
  generalize (w.alloc (.cells #[.int .i64 K1, .slice A n c] 24)).alloc (.cells #[.int .i64 K2, .slice B m d] 24) = X at hb2 bB ⊢
  refine (HN1.out _ (hA.below hb2)).mono ?_
  rintro e u1 ⟨A1, n1, r1, rfl, hL1, hb1⟩
  have hX := bB.lt
  have bB1 := (bB.below hb1 hX).alloc (.cells #[.int .i64 K1, .slice A1 n1 r1] 24)
  have hbw := (below_chain hb2 hb1 hb2.size).alloc (by have := hb1.size; have := hb2.size; omega) (.cells #[.int .i64 K1, .slice A1 n1 r1] 24)
  have hB1 := Blk.new u1 24 #[.int .i64 K1, .slice A1 n1 r1]
  have hT1 := hL1.lets.alloc (.cells #[.int .i64 K1, .slice A1 n1 r1] 24)
  clear hb2 bB hb1 hL1
  go_upto_region 2 with fail
  generalize u1.alloc (.cells #[.int .i64 K1, .slice A1 n1 r1] 24) = W1 at bB1 hbw hB1 hT1 ⊢
  have y0 : W1.cell? ⟨w.heap.size + 1, 0, none⟩ = some (.int .i64 K2) := (bB1.cell 0).trans rfl
  have y1 : W1.cell? ⟨w.heap.size + 1, 1, none⟩ = some (.slice B m d) := (bB1.cell 1).trans rfl
  go_wp2_with fail
  refine (HN2.out _ (hB.below hbw)).mono ?_
  rintro e u2 ⟨A2, n2, r2, rfl, hL2, hb3⟩
  have hbw2 := (below_chain hbw hb3 hbw.size).alloc (by have := hb3.size; have := hbw.size; omega) (.cells #[.int .i64 K2, .slice A2 n2 r2] 24)
  have hC1 := (hB1.below hb3 hB1.lt).alloc (.cells #[.int .i64 K2, .slice A2 n2 r2] 24)
  have hC2 := Blk.new u2 24 #[.int .i64 K2, .slice A2 n2 r2]
  have hD1 := (hT1.below hb3).alloc (.cells #[.int .i64 K2, .slice A2 n2 r2] 24)
  have hD2 := hL2.lets.alloc (.cells #[.int .i64 K2, .slice A2 n2 r2] 24)
  clear hbw hB1 hT1 y0 y1 bB1 hb3 hL2
  go_upto_region 3 with fail
  generalize u2.alloc (.cells #[.int .i64 K2, .slice A2 n2 r2] 24) = W2 at hbw2 hC1 hC2 hD1 hD2 ⊢
  have p0 : W2.cell? ⟨u1.heap.size, 0, none⟩ = some (.int .i64 K1) := (hC1.cell 0).trans rfl
  have p1 : W2.cell? ⟨u1.heap.size, 1, none⟩ = some (.slice A1 n1 r1) := (hC1.cell 1).trans rfl
  have s0 : W2.cell? ⟨u2.heap.size, 0, none⟩ = some (.int .i64 K2) := (hC2.cell 0).trans rfl
  have s1 : W2.cell? ⟨u2.heap.size, 1, none⟩ = some (.slice A2 n2 r2) := (hC2.cell 1).trans rfl
  go_wp2_with fail
  refine (cref_Equal K1 K2 _ _ _ _ _ _ _ _ _ hD1 hD2).mono ?_
  rintro e w5 ⟨rfl, hb5⟩
  go_wp2_with fail
  go_ret
  exact ⟨rfl, below_chain hbw2 hb5 hbw2.size⟩
end
end Go.Proofs.YtkjcmppaapbabaaDoor
