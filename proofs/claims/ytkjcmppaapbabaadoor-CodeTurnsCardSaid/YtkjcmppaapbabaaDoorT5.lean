/-
  Contracts: rotated; the document's Swap; the program's Swap. Conditions: the letters read and are tame.
-/
import Derived.Test.YtkjcmppaapbabaaDoorT2
import Derived.Test.YtkjcmppaapbabaaDoorK11
import Derived.Deep.RegionLaw
namespace Go.Proofs.YtkjcmppaapbabaaDoor
open Go.RowKit
theorem Lets.to {w : World} {A : Option Addr} {n i : Nat} {L : List Lt} (h : Lets w A n L) (hi : i ≤ n) : Lets w A i (L.take i) := by
  refine ⟨by simp [h.len]; omega, by have := h.le; omega, fun x hx => h.fits x (List.mem_of_mem_take hx), fun hn => ?_⟩
  obtain ⟨g, o, rfl, hb, hcell⟩ := h.2.2.2 (by omega)
  refine ⟨g, o, rfl, hb, fun t x hx => hcell t x ?_⟩
  rw [List.getElem?_take] at hx
  split at hx
  · exact hx
  · cases hx
theorem Lets.from {w : World} {A : Option Addr} {n i c : Nat} {L : List Lt} (h : Lets w A n L) (hi : i ≤ n) (hc : n ≤ c) :
    Lets w (if c = i then A else A.map (·.add (i * 6))) (n - i) (L.drop i) := by
  refine ⟨by simp [h.len], by have := h.le; omega, fun x hx => h.fits x (List.mem_of_mem_drop hx), fun hn => ?_⟩
  obtain ⟨g, o, rfl, hb, hcell⟩ := h.2.2.2 (by omega)
  refine ⟨g, o + i * 6, by rw [if_neg (by omega)]; simp [Addr.add_lit], hb, fun t x hx => ?_⟩
  rw [List.getElem?_drop] at hx
  have := hcell _ _ hx
  rw [Nat.add_mul, ← Nat.add_assoc] at this
  exact this
set_option maxHeartbeats 1600000 in
theorem code_rotated (i : Nat) (A : Option Addr) (n c : Nat) (L : List Lt) (w : World) (hA : Lets w A n L) (hi : i ≤ n) (hc : n ≤ c) :
    Calls Tryd.prog 95 #[.slice A n c, .int .i64 i] w fun e w' => ∃ A' c', e = .returned (.slice A' n c') ∧ OwnL w' w.heap.size A' n c' (rotT L i) ∧ Below w.heap.size w w' := by
  have hle := hA.le
  have hi0 : (0 : Int) ≤ (i : Int) := by omega
  have hi1 : (i : Int) ≤ (n : Int) := by omega
  have hi2 : (i : Int) ≤ (c : Int) := by omega
  go_enter Tryd.func95, Tryd.ntmps95
  go_wp2_with fail
  go_region_law (first
    | ((refine stepL (base := w.heap.size) (A := none) (n := 0) (c := 0) (L := []) (m := n - i) (d := c - i) (M := L.drop i) rfl (.const (.slice none 0 0)) (.tmp 7) (by rfl) (by rfl) (by rfl) (OwnL.nil _ _) (Lets.from (c := c) (hA.below (Below.refl _ _).drew) hi hc) (n - i) (by omega) (by omega) (Nat.le_refl _) ?_)
       intro A1 c1 w1 hown1 hg1 hl1
       have kg1 : w.grownBy w1 (blk none) := ⟨hg1.os, hg1.tape, hg1.output, hg1.size, hg1.block⟩
       have kb1 : Below w.heap.size w w1 := (Below.refl _ _).grown kg1 (Nat.le_refl _) (fun k hk => by cases hk))
    | ((refine stepL (base := w.heap.size) (m := i) (d := c) (M := L.take i) rfl (.tmp 8) (.tmp 11) (by rfl) (by rfl) (by rfl) hown1 (Lets.to (hA.below kb1) hi) n (by omega) (by omega) kb1.size ?_)
       intro A2 c2 w2 hown2 hg2 hl2
       have kb2 : Below w.heap.size w w2 := kb1.trans ((Below.refl _ _).grown hg2 kb1.size (fun k hk => (hown1.row.lt k hk).1))))
  all_goals
    go_wp2_with fail
    all_goals
      go_ret
      exact ⟨A2, c2, rfl, by simpa [rotT] using hown2, kb2⟩
/-- What a copy leaves that is stored into the result's block. -/
theorem copy_ends {w X wr : World} {K : Int} {A : Option Addr} {n c : Nat} {M : List Lt} (hR : Blk wr (w.heap.size + 1) 24 #[.int .i64 0, .slice none 0 0]) (hb : Below X.heap.size X wr) (hbx : Below w.heap.size w X) (hX : w.heap.size + 1 < X.heap.size) (h : OwnL wr X.heap.size A n c M) :
    Blk ((wr.setCell ⟨w.heap.size + 1, 0, none⟩ (.int .i64 K)).setCell ⟨w.heap.size + 1, 1, none⟩ (.slice A n c)) (w.heap.size + 1) 24 #[.int .i64 K, .slice A n c] ∧
    OwnL ((wr.setCell ⟨w.heap.size + 1, 0, none⟩ (.int .i64 K)).setCell ⟨w.heap.size + 1, 1, none⟩ (.slice A n c)) w.heap.size A n c M ∧
    Below w.heap.size w ((wr.setCell ⟨w.heap.size + 1, 0, none⟩ (.int .i64 K)).setCell ⟨w.heap.size + 1, 1, none⟩ (.slice A n c)) := by
  refine ⟨(hR.set_ 0 _).set_ 1 _, ?_, ((below_chain hbx hb (by omega)).setCell (p := ⟨w.heap.size + 1, 0, none⟩) (by simp) (.int .i64 K)).setCell (p := ⟨w.heap.size + 1, 1, none⟩) (by simp) (.slice A n c)⟩
  have gS := only_setCell (only_setCell (World.grownBy.refl wr (some (w.heap.size + 1))) (p := ⟨w.heap.size + 1, 0, none⟩) (.inl rfl) (.int .i64 K)) (p := ⟨w.heap.size + 1, 1, none⟩) (.inl rfl) (.slice A n c)
  refine ⟨(h.row.kept gS ?_).mono (by omega), h.fits, h.le⟩
  cases hb : blk A with
  | none => exact .inl rfl
  | some q => exact .inr (by have := (h.row.lt q hb).1; simp; omega)
set_option maxRecDepth 100000 in
set_option maxHeartbeats 6400000 in
theorem cref_Swap (K : Int) (A : Option Addr) (n c : Nat) (L : List Lt) (w : World) (hA : Lets w A n L) (hs : Tame K L) :
    Calls Tryd.prog 46 #[.agg #[.int .i64 K, .slice A n c]] w (GivesC w K (swapL L)) := by
  have hle := hA.le
  have hLn := Lib.hid hA.len
  have hK0 := hs.lo
  have hK4 := hs.hi
  have HS := Lib.hid hs
  have hbx : Boxed w ((w.alloc (.cells #[.int .i64 K, .slice A n c] 24)).alloc (.cells #[.int .i64 0, .slice none 0 0] 24)) K A n c := (Boxed.refl w K A n c).alloc _
  have hR0 : Blk ((w.alloc (.cells #[.int .i64 K, .slice A n c] 24)).alloc (.cells #[.int .i64 0, .slice none 0 0] 24)) (w.heap.size + 1) 24 #[.int .i64 0, .slice none 0 0] := heap_alloc2_new w _ _
  clear hs
  go_enter Tryd.func46, Tryd.ntmps46
  go_wp2_with fail
  generalize (w.alloc (.cells #[.int .i64 K, .slice A n c] 24)).alloc (.cells #[.int .i64 0, .slice none 0 0] 24) = X at hbx hR0 ⊢
  refine (cref_Copy K A n c L _ (hA.below hbx.below)).mono ?_
  rintro e w1 ⟨A1, n1, c1, rfl, hown, hb1⟩
  obtain rfl : n1 = n := by rw [← hown.len, hLn.out]
  have hX := hR0.lt
  have hsz1 := hb1.size
  have hC0 : Cpy X (w1.alloc (.cells #[.int .i64 K, .slice A1 n1 c1] 24)) w1.heap.size K A1 n1 c1 L :=
    ⟨hown.alloc _, Blk.new _ _ _, fun q hq => Nat.ne_of_lt (hown.row.lt q hq).2, hb1.alloc hsz1 _⟩
  have hst : Hid (Upto swLt L L 0) := Lib.hid (Upto.zero _ _)
  clear hb1 hown
  go_wp2_with fail
  go_loopw [4] (fun v4 wr => ∃ (i : Nat) (Lw : List Lt), i ≤ n1 ∧ v4 = .int .i64 i ∧ Cpy X wr w1.heap.size K A1 n1 c1 Lw ∧ Hid (Upto swLt L Lw i)) (fun v4 _ => n1 - (intOf v4).toNat)
  case atStart => exact ⟨0, L, Nat.zero_le _, rfl, hC0, hst⟩
  case round =>
    obtain ⟨i, Lw, hi, rfl, hC, HU⟩ := hrel
    clear hC0 hst
    have o1 := hC.c1
    have hszr := hC.old.size
    by_cases hlt : i < n1
    · obtain ⟨gg, o, rfl, hgg, hx, hok⟩ := hC.own.lets.at_ hlt
      have hlw : la Lw i = la L i := by rw [HU.out.2 i (by rw [hLn.out]; exact hlt), if_neg (by omega)]
      have hgi : Lw[i]? = some (la L i) := by rw [la_get (by rw [hC.own.len]; exact hlt), hlw]
      rw [hlw] at hx hok
      obtain ⟨y0, y1, y2, y3, y4, y5⟩ := hx
      have i0 : (0 : Int) ≤ (i : Int) := by omega
      have i1 : (i : Int) < (n1 : Int) := by omega
      have f4 := hC.free hlt (i := 4) (by omega)
      have f5 := hC.free hlt (i := 5) (by omega)
      have m1 : gg ≠ w1.heap.size := hC.far gg rfl
      have HOK := Lib.hid hok
      have HGI := Lib.hid hgi
      clear hok hgi hlw
      by_cases hk1 : (la L i).kind = 2
      · have q1 : ((la L i).kind == 2) = true := by simpa using hk1
        have hc2 := isC_t hk1
        have hsg := HS.out.sign i (by rw [hLn.out]; exact hlt) hc2
        have s0 : -1 ≤ (la L i).sign := by omega
        have s1 : (la L i).sign ≤ 1 := by omega
        have HU1 := Lib.hid (HU.out.set (by rw [hLn.out]; exact hlt) (sw_c hc2).symm)
        have hok1 : LtOk { la L i with over := !(la L i).over } := ⟨HOK.out.kind, HOK.out.gate, HOK.out.rank, HOK.out.id, HOK.out.sign⟩
        have hok2 : LtOk { la L i with over := !(la L i).over, sign := -(la L i).sign } := ⟨HOK.out.kind, HOK.out.gate, HOK.out.rank, HOK.out.id, ⟨by simp only []; omega, by simp only []; omega⟩⟩
        have hC1 := hC.put (i := 5) (u := .bool (!(la L i).over)) (x' := { la L i with over := !(la L i).over }) HGI.out (by omega) rfl hok1 rfl
        have hC1d : Cpy X (wr.setCell ⟨gg, o + i * 6 + 5, none⟩ (.bool (!(la L i).over))).drew w1.heap.size K (some ⟨gg, o, none⟩) n1 c1 (Lw.set i { la L i with over := !(la L i).over }) := hC1.next (Below.refl _ _).drew
        have hlw1 : i < Lw.length := by rw [hC.own.len]; exact hlt
        have HLW1 := Lib.hid hlw1
        have HK2 := Lib.hid hok2
        have v1 : IntKind.i64.wrap (-(la L i).sign) = -(la L i).sign := IntWalk.i64_in _ (by omega)
        clear HU hk1 hc2 hsg hok1 hok2 hC1 hC hlw1
        go_wp2_with fail
        go_region
        go_upto_region 7 with fail
        generalize (wr.setCell ⟨gg, o + i * 6 + 5, none⟩ (.bool (!(la L i).over))).drew = V at hC1d ⊢
        have hx5 := (hC1d.own.lets.also hlt).1
        rw [la_set HLW1.out, if_pos rfl] at hx5
        have t4 := hx5.sign
        have t1 := hC1d.c1
        have tf := hC1d.free hlt (i := 4) (by omega)
        have hC2 := hC1d.put (i := 4) (j := i) (x := { la L i with over := !(la L i).over }) (u := .int .i64 (-(la L i).sign)) (x' := { la L i with over := !(la L i).over, sign := -(la L i).sign }) (by rw [List.getElem?_set_self HLW1.out]) (by omega) rfl HK2.out rfl
        rw [List.set_set] at hC2
        clear hC1d hx5 o1 y0 y1 y2 y3 y4 y5 f4 f5
        go_region
        go_wp2_with fail
        go_roundw
        case rel => exact ⟨i + 1, _, by omega, by go_num, by first | exact hC2 | exact hC2.next (Below.refl _ _).drew, HU1⟩
        case measure => simp [intOf]; omega
      · have q1 : ((la L i).kind == 2) = false := by simpa using hk1
        have HU1 := Lib.hid (HU.out.skip (sw_n (x := la L i) (isC_f hk1)))
        clear hk1 HU
        go_wp2_with fail
        go_roundw
        case rel => exact ⟨i + 1, Lw, by omega, by go_num, hC, HU1⟩
        case measure => simp [intOf]; omega
    · have hin : i = n1 := by omega
      have hU := HU.out
      rw [hin, ← hLn.out] at hU
      have hLf := hU.all
      have hown := hC.own
      rw [hLf] at hown
      have i1 : ¬ (i : Int) < (n1 : Int) := by omega
      have hR3 := hR0.below hC.old hX
      have o0 := hC.c0
      have r0 : wr.cell? ⟨w.heap.size + 1, 0, none⟩ = some (.int .i64 0) := (hR3.cell 0).trans rfl
      have r1 : wr.cell? ⟨w.heap.size + 1, 1, none⟩ = some (.slice none 0 0) := (hR3.cell 1).trans rfl
      have z0 := hR3.frozen 0
      have z1 := hR3.frozen 1
      have hG := copy_ends (w := w) (X := X) (K := K) hR3 hC.old hbx.below (by omega) hown
      clear hU hLf hin HU hR3 hown
      go_wp2_with fail
      (try simp only [Exit.inBlock, Exit.then])
      refine ret_cellB rfl rfl hG.1 Tryd.underlying24 rfl (by kernel_rfl) rfl ?_
      exact ⟨A1, n1, c1, rfl, hG.2.1, hG.2.2⟩
end Go.Proofs.YtkjcmppaapbabaaDoor
