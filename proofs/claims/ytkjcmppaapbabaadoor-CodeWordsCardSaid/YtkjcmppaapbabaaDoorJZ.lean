/-
  Contracts: the document's Word, the program's Word. Conditions: the letters read.
  Contract: the program's Word. Conditions: the letters read.
  Plain: the words of codes: without a finger, mirrored, traveled backwards, turned. No walk.
  Words of valid codes: what the functions of layer 1 and of layer 2 return on them. Conditions: the codes are valid, the words are words.
-/
import Derived.Test.YtkjcmppaapbabaaDoorJK
import Derived.Test.YtkjcmppaapbabaaDoorJC
import Derived.Test.YtkjcmppaapbabaaDoorJF
import Derived.Test.YtkjcmppaapbabaaDoorJH
import Derived.Test.YtkjcmppaapbabaaDoorJA
import Derived.Test.YtkjcmppaapbabaaDoorJP
import Derived.Test.YtkjcmppaapbabaaDoorKA
import Derived.Test.YtkjcmppaapbabaaDoorJY
namespace Go.Proofs.YtkjcmppaapbabaaDoor
section
open Go.RowKit
/-- The gates of the passes among the first m letters. -/
def gTo (L : List Lt) : Nat → List Int
  | 0 => []
  | m + 1 => if isP (la L m) then gTo L m ++ [(la L m).gate] else gTo L m
theorem gTo_yes {L : List Lt} {m : Nat} (h : isP (la L m) = true) : gTo L (m + 1) = gTo L m ++ [(la L m).gate] := by
  show (if isP (la L m) then _ else _) = _
  rw [if_pos h]
theorem gTo_no {L : List Lt} {m : Nat} (h : isP (la L m) = false) : gTo L (m + 1) = gTo L m := by
  show (if isP (la L m) then _ else _) = _
  rw [if_neg (by rw [h]; simp)]
theorem gTo_len (L : List Lt) : ∀ m, (gTo L m).length ≤ m
  | 0 => Nat.le_refl _
  | m + 1 => by
    have := gTo_len L m
    cases h : isP (la L m) with
    | true => rw [gTo_yes h]; simp; omega
    | false => rw [gTo_no h]; omega
def GivesI (w : World) (I : List Int) (e : Ending) (w' : World) : Prop := ∃ (A' : Option Addr) (n' c' : Nat), e = .returned (.slice A' n' c') ∧ Own w' w.heap.size A' n' c' I ∧ Below w.heap.size w w'
set_option maxRecDepth 100000 in
set_option maxHeartbeats 3200000 in
theorem cref_Word (K : Int) (A : Option Addr) (n c : Nat) (L : List Lt) (w : World) (hA : Lets w A n L) :
    Calls Tryd.prog 69 #[.agg #[.int .i64 K, .slice A n c]] w (GivesI w (gTo L n)) := by
  have hle := hA.le
  have hbx := Boxed.refl w K A n c
  go_enter Tryd.func69, Tryd.ntmps69
  go_wp2_with fail
  go_loopw [3, 4] (fun v3 v4 wr => ∃ (k m : Nat) (B : Option Addr) (d : Nat) (I : List Int), k ≤ n ∧ m ≤ k ∧ v4 = .int .i64 k ∧ v3 = .slice B m d ∧ Own wr (w.heap.size + 1) B m d I ∧ Boxed w wr K A n c ∧ Hid (I = gTo L k)) (fun _ v4 _ => n - (intOf v4).toNat)
  case atStart => exact ⟨0, 0, none, 0, [], Nat.zero_le _, Nat.le_refl _, rfl, rfl, Own.nil _ _, hbx, Lib.hid rfl⟩
  case round =>
    obtain ⟨k, m, B, d, I, hk, hm, rfl, rfl, hown, hb, HI⟩ := hrel
    clear hbx
    have e1 := hb.c1
    by_cases hlt : k < n
    · obtain ⟨g, o, rfl, hg, hx, hok⟩ := (hA.below hb.below).at_ hlt
      obtain ⟨y0, y1, y2, y3, y4, y5⟩ := hx
      have i0 : (0 : Int) ≤ (k : Int) := by omega
      have i1 : (k : Int) < (n : Int) := by omega
      have HOK := Lib.hid hok
      clear hok
      by_cases hk1 : (la L k).kind = 1
      · have q1 : ((la L k).kind == 1) = true := by simpa using hk1
        have HG := Lib.hid (gTo_yes (L := L) (m := k) (isP_t hk1))
        clear hk1
        go_wp2_with (at_builtin; refine app1 rfl _ _ rfl (hown.alloc _) (la L k).gate rfl rfl ?c1 HOK.out.gate (by omega) ?c3 ?_)
        case c1 => rw [World.cell?_alloc_at _ _ _ _ rfl]; rfl
        case c3 => have := hb.size; simp; omega
        intro B' d' w1 hown' hb' _ _
        have hbz := Boxed.moreB (Boxed.alloc hb (.cells #[.int .i64 (la L k).gate] 3)) hb' (Nat.le_refl _)
        clear hb hb' hown
        go_wp2_with fail
        go_roundw
        case rel => exact ⟨k + 1, m + 1, B', d', _, by omega, by omega, by go_num, rfl, hown', hbz, Lib.hid (by rw [HG.out, HI.out])⟩
        case measure => simp [intOf]; omega
      · have q1 : ((la L k).kind == 1) = false := by simpa using hk1
        have HG := Lib.hid (gTo_no (L := L) (m := k) (isP_f hk1))
        clear hk1
        go_wp2_with fail
        go_roundw
        case rel => exact ⟨k + 1, m, B, d, I, by omega, by omega, by go_num, rfl, hown, hb, Lib.hid (by rw [HG.out]; exact HI.out)⟩
        case measure => simp [intOf]; omega
    · have hkn : k = n := by omega
      subst hkn
      have hI := HI.out
      subst hI
      go_wp2_with fail
      go_ret
      exact ⟨B, m, d, rfl, hown.mono (by omega), hb.below⟩
end

section
open Go.RowKit
def worL (K : Int) (L : List Lt) (n : Nat) : List Int := if checkE K L = 0 then gTo L n else []
def GivesIE (w : World) (I : List Int) (E : Int) (e : Ending) (w' : World) : Prop := ∃ (A' : Option Addr) (n' c' : Nat), e = .returned (.tuple #[.slice A' n' c', .int .i64 E]) ∧ Own w' w.heap.size A' n' c' I ∧ Below w.heap.size w w'
set_option maxRecDepth 100000 in
set_option maxHeartbeats 6400000 in
theorem code_Word (K : Int) (A : Option Addr) (n c : Nat) (L : List Lt) (w : World) (hA : Lets w A n L) (hc : n ≤ c) :
    Calls Tryd.prog 65 #[.agg #[.int .i64 K, .slice A n c]] w (GivesIE w (worL K L n) (checkE K L)) := by
  have hle := hA.le
  have hbx := Boxed.refl w K A n c
  have x0 := hbx.c0
  have x1 := hbx.c1
  obtain ⟨E, hE⟩ : ∃ E, checkE K L = E := ⟨_, rfl⟩
  have HE := Lib.hid hE
  clear hE
  go_enter Tryd.func65, Tryd.ntmps65
  go_wp2_with fail
  refine (code_read K A n c L _ (hA.below hbx.below)).mono ?_
  rintro e w1 ⟨v, rfl, hb1, hok⟩
  have hb2 := hbx.more hb1
  clear x0 x1 hb1 hbx
  rw [HE.out]
  by_cases hz : E = 0
  · subst hz
    obtain ⟨p, rfl, k, rfl, hk40, hn400, hp, hcase⟩ := hok HE.out
    have hdc : w1.cell? ⟨p, 1, none⟩ = some (.slice A n c) := by
      rcases hcase with ⟨h0, hd⟩ | ⟨_, base, b, g2, g3, g4, g6, s, P, C, ids, _, hF⟩
      · exact hd.c1
      · exact hF.ranks.dia.c1
    have HW := Lib.hid (show worL (k : Int) L n = gTo L n by unfold worL; rw [if_pos HE.out])
    clear hok hcase
    go_wp2_with fail
    go_loopw [6, 8, 23] (fun v6 _ v23 wr => ∃ (i m : Nat) (B : Option Addr) (d : Nat) (I : List Int), i ≤ n ∧ m ≤ i ∧ v23 = .int .i64 i ∧ v6 = .slice B m d ∧ Own wr (w.heap.size + 1) B m d I ∧ Boxed w wr (k : Int) A n c ∧ Hid (I = gTo L i)) (fun _ _ v23 _ => n - (intOf v23).toNat)
    case atStart => exact ⟨0, 0, none, 0, [], Nat.zero_le _, Nat.le_refl _, rfl, rfl, Own.nil _ _, hb2, Lib.hid rfl⟩
    case round =>
      obtain ⟨i, m, B, d, I, hi, hm, rfl, rfl, hown, hb, HI⟩ := hrel
      clear hb2 hdc
      by_cases hlt : i < n
      · obtain ⟨g, o, rfl, hg, hx, hok⟩ := (hA.below hb.below).at_ hlt
        obtain ⟨y0, y1, y2, y3, y4, y5⟩ := hx
        have i0 : (0 : Int) ≤ (i : Int) := by omega
        have i1 : (i : Int) < (n : Int) := by omega
        have HOK := Lib.hid hok
        clear hok
        by_cases hk1 : (la L i).kind = 1
        · have q1 : ((la L i).kind == 1) = true := by simpa using hk1
          have HG := Lib.hid (gTo_yes (L := L) (m := i) (isP_t hk1))
          clear hk1
          go_wp2_with (at_builtin; refine app1 rfl _ _ rfl ((hown.alloc _).alloc _) (la L i).gate rfl rfl ?c1 HOK.out.gate (by omega) ?c3 ?_)
          case c1 => rw [World.cell?_alloc_at _ _ _ _ (by simp)]; rfl
          case c3 => have := hb.size; simp; omega
          intro B' d' w2 hown' hb' _ _
          have hbz := Boxed.moreB ((Boxed.alloc hb _).alloc _) hb' (Nat.le_refl _)
          clear hb hb' hown
          go_wp2_with fail
          go_roundw
          case rel => exact ⟨i + 1, m + 1, B', d', _, by omega, by omega, by go_num, rfl, hown', hbz, Lib.hid (by rw [HG.out, HI.out])⟩
          case measure => simp [intOf]; omega
        · have q1 : ((la L i).kind == 1) = false := by simpa using hk1
          have HG := Lib.hid (gTo_no (L := L) (m := i) (isP_f hk1))
          clear hk1
          go_wp2_with fail
          go_roundw
          case rel => exact ⟨i + 1, m, B, d, I, by omega, by omega, by go_num, rfl, hown.alloc _, hb.alloc _, Lib.hid (by rw [HG.out]; exact HI.out)⟩
          case measure => simp [intOf]; omega
      · have hkn : i = n := by omega
        subst hkn
        go_wp2_with fail
        go_ret2
        exact ⟨B, m, d, by rw [HE.out]; rfl, by rw [HW.out, ← HI.out]; exact hown.mono (by omega), hb.below⟩
  · have hz2 : (E != 0) = true := by simpa using hz
    have HW := Lib.hid (show worL K L n = [] by unfold worL; rw [if_neg (by rw [HE.out]; exact hz)])
    clear hok hz
    go_wp2_with fail
    go_ret2
    exact ⟨none, 0, 0, by rw [HE.out]; rfl, by rw [HW.out]; exact Own.nil _ _, hb2.below⟩
end

section
/-- The gates of the passes of a list of letters. -/
def wd (L : List Lt) : List Int := (L.filter isP).map (·.gate)
theorem wd_app (X Y : List Lt) : wd (X ++ Y) = wd X ++ wd Y := by unfold wd; rw [List.filter_append, List.map_append]
theorem wd_rev (X : List Lt) : wd X.reverse = (wd X).reverse := by unfold wd; rw [List.filter_reverse, List.map_reverse]
theorem take_la {L : List Lt} {m : Nat} (h : m < L.length) : L.take (m + 1) = L.take m ++ [la L m] := by
  rw [List.take_add_one, la_getI h]; rfl
theorem gTo_take {L : List Lt} : ∀ m, m ≤ L.length → gTo L m = wd (L.take m)
  | 0, _ => rfl
  | m + 1, h => by
    rw [take_la (by omega), wd_app, ← gTo_take m (by omega)]
    unfold wd
    cases e : isP (la L m) with
    | true => rw [gTo_yes e, List.filter_cons_of_pos e]; rfl
    | false => rw [gTo_no e, List.filter_cons_of_neg (by rw [e]; simp)]; simp
theorem gTo_wd (L : List Lt) : gTo L L.length = wd L := by rw [gTo_take _ (Nat.le_refl _), List.take_length]
theorem wd_len {L : List Lt} : ∀ m, m ≤ L.length → (wd (L.take m)).length = pN L m
  | 0, _ => rfl
  | m + 1, h => by
    rw [take_la (by omega), wd_app, List.length_append, wd_len m (by omega), pN_succ]
    unfold wd
    cases e : isP (la L m) with
    | true => rw [List.filter_cons_of_pos e]; rfl
    | false => rw [List.filter_cons_of_neg (by rw [e]; simp)]; rfl
theorem wd_length (L : List Lt) : (wd L).length = pN L L.length := by
  have := wd_len (L := L) L.length (Nat.le_refl _)
  rwa [List.take_length] at this
theorem wd_map {F : Lt → Lt} {f : Int → Int} (hk : ∀ x, (F x).kind = x.kind) (hf : ∀ x, isP x = true → (F x).gate = f x.gate) (L : List Lt) : wd (L.map F) = (wd L).map f := by
  unfold wd
  induction L with
  | nil => rfl
  | cons x L ih =>
    have e : isP (F x) = isP x := by unfold isP; rw [hk]
    cases h : isP x with
    | true => rw [List.map_cons, List.filter_cons_of_pos (by rw [e]; exact h), List.filter_cons_of_pos h, List.map_cons, List.map_cons, List.map_cons, ih, hf x h]
    | false => rw [List.map_cons, List.filter_cons_of_neg (by rw [e, h]; simp), List.filter_cons_of_neg (by rw [h]; simp), ih]
section
variable {K : Int} {L : List Lt}
theorem wd_forget (f : Int) : wd (forgetL L f) = (wd L).map (dropG f) := by
  unfold forgetL
  refine wd_map (fun x => fg_kind.1) (fun x hx => ?_) L
  rw [(fg_gate hx).1]; rfl
theorem wd_mirror : wd (mirrorL K L) = (wd L).map (K - ·) := by
  unfold mirrorL
  refine wd_map (mr_kind K L) (fun x hx => ?_) L
  rw [mr_p hx]
theorem wd_to : wd (L.map toLt) = wd L := by
  rw [wd_map (f := fun x => x) to_kind (fun x hx => ?_) L]
  · simp
  · rw [to_n (isP_isC hx)]
theorem rot2_wd {k : Nat} (hk : k ≤ L.length) (h : pN L k % 2 = 0) : Rot2 (wd L) (wd (rotT L k)) := by
  refine ⟨wd (L.take k), wd (L.drop k), ?_, ?_, ?_⟩
  · rw [← wd_app, List.take_append_drop]
  · unfold rotT; rw [wd_app]
  · rw [wd_len k hk]; exact h
theorem wd_even (hv : checkE K L = 0) : (wd L).length % 2 = 0 := by
  rw [wd_length]
  rcases (check_parts hv).2.2.2 with h | h
  · rw [List.length_eq_zero_iff] at h; subst h; rfl
  · exact (valid_parts h).1
theorem wd_valid (hv : checkE K L = 0) : validB K (wd L) = true := by
  have hs := tame_of_check hv
  have h2 := wd_even hv
  have hl : (wd L).length ≤ 400 := by rw [wd_length]; have := pN_le L L.length; have := hs.len; omega
  have hm : ∀ x ∈ wd L, 0 ≤ x ∧ x ≤ K := by
    intro x hx
    unfold wd at hx
    rw [List.mem_map] at hx
    obtain ⟨l, hl, rfl⟩ := hx
    rw [List.mem_filter] at hl
    obtain ⟨i, hi, rfl⟩ := la_mem.1 hl.1
    have := hs.pass i hi hl.2
    exact ⟨this.1, this.2.1⟩
  have h0 := hs.lo
  have h1 := hs.hi
  unfold validB wordB
  simp only [Bool.and_eq_true, decide_eq_true_eq, List.all_eq_true]
  refine ⟨⟨⟨h0, h1⟩, ⟨h2, hl⟩, fun x hx => inB_yes (hm x hx).1 (by have := (hm x hx).2; omega)⟩, fun x hx => (hm x hx).2⟩
/-- Traveled backwards, it is the same curve. -/
theorem wd_back (hv : checkE K L = 0) : normalL (wd (backL L)) = normalL (wd L) := by
  have he := wd_even hv
  rcases (check_parts hv).2.2.2 with h | h
  · rw [List.length_eq_zero_iff] at h; subst h; rfl
  · rcases Nat.eq_zero_or_pos L.length with h0 | h0
    · rw [List.length_eq_zero_iff] at h0; subst h0; rfl
    · obtain ⟨k, hk, hp, hd, e⟩ := back_is h0 h
      have hdr := dwn_rev hk hp (valid_parts h).1
      rw [hd] at hdr
      have hev : pN L.reverse (L.length - 1 - k) % 2 = 0 := by unfold dwn at hdr; simpa using hdr
      have r := rot2_wd (L := L.reverse) (k := L.length - 1 - k) (by rw [List.length_reverse]; omega) hev
      rw [e]
      refine ((Eqv.of_rot2 r).symm.trans ?_).normal ?_
      · rw [wd_rev]; exact (Eqv.rev _).symm
      · rw [← r.symm (by rw [wd_rev, List.length_reverse]; exact he) |>.len, wd_rev, List.length_reverse]; exact he
/-- The turned word. -/
theorem wd_turn (hv : checkE K L = 0) : normalL (tnL (wd L)) = normalL (wd (turnL L)) := by
  have he := wd_even hv
  rcases (check_parts hv).2.2.2 with h | h
  · rw [List.length_eq_zero_iff] at h; subst h; rfl
  · rcases Nat.eq_zero_or_pos L.length with h0 | h0
    · rw [List.length_eq_zero_iff] at h0; subst h0; rfl
    · obtain ⟨k, hk, hp, hd, e⟩ := turn_is h0 h
      have ho : (wd (L.take k)).length % 2 = 1 := by
        rw [wd_len k (Nat.le_of_lt hk)]
        unfold dwn at hd
        simp at hd; omega
      have e2 : wd (turnL L) = wd (L.drop k) ++ wd (L.take k) := by
        rw [e, rot_map, wd_to]; unfold rotT; rw [wd_app]
      have e3 : wd L = wd (L.take k) ++ wd (L.drop k) := by rw [← wd_app, List.take_append_drop]
      rw [e3] at he ⊢
      rw [e2]
      generalize wd (L.take k) = U at *
      generalize wd (L.drop k) = V at *
      cases U with
      | nil => simp at ho
      | cons x U =>
        have e4 : tnL (x :: U ++ V) = U ++ (V ++ [x]) := by rw [turnL_eq]; simp [rotL]
        have e5 : V ++ x :: U = (V ++ [x]) ++ U := by simp
        rw [e4, e5]
        refine (Eqv.rot U (V ++ [x]) (by simp at ho; omega)).normal ?_
        simp at he ⊢; omega
end
end

section
open Go.RowKit
theorem gives_ie {w : World} {L : List Int} {er : Int} {e : Ending} {w' : World} (h : Gives w L er e w') : GivesIE w L er e w' := by
  obtain ⟨A', c', rfl, hO, hb⟩ := h
  exact ⟨A', L.length, c', rfl, hO, hb⟩
theorem errW_z {W : List Int} (h : wordB W = true) : errW W = 0 := by
  unfold errW
  rw [if_neg (by have := (wordB_iff.1 h).2.1; omega), if_pos h]
theorem errF_z {K : Int} {W : List Int} (h : validB K W = true) : errF K W = 0 := by
  unfold errF
  rw [if_neg (by have := (wordB_iff.1 (wordB_of_validB h)).2.1; omega), if_pos h]
theorem word_of {K : Int} {L : List Lt} (h : checkE K L = 0) : wordB (wd L) = true := wordB_of_validB (wd_valid h)
theorem w_word (K : Int) (A : Option Addr) (n c : Nat) (L : List Lt) (h : checkE K L = 0) (w : World) (hA : Lets w A n L) (hc : n ≤ c) :
    Calls Tryd.prog 65 #[.agg #[.int .i64 K, .slice A n c]] w (GivesIE w (wd L) 0) := by
  have := code_Word K A n c L w hA hc
  rw [h] at this
  unfold worL at this
  rw [if_pos h, ← hA.len, gTo_wd] at this
  rw [← hA.len]
  exact this
theorem w_cref (K : Int) (A : Option Addr) (n c : Nat) (L : List Lt) (w : World) (hA : Lets w A n L) :
    Calls Tryd.prog 69 #[.agg #[.int .i64 K, .slice A n c]] w (GivesI w (wd L)) := by
  have := cref_Word K A n c L w hA
  rw [← hA.len, gTo_wd] at this
  rw [← hA.len]
  exact this
theorem w_equal (A B : Option Addr) (n m c d : Nat) (L M : List Int) (h : L = M) (w : World) (hA : Ints w A n L) (hB : Ints w B m M) :
    Calls Tryd.prog 59 #[.slice A n c, .slice B m d] w fun e w' => e = .returned (.bool true) ∧ Below w.heap.size w w' := by
  refine (ref_equal A B n m c d L M w hA hB).mono ?_
  rintro e w' ⟨rfl, hd⟩
  exact ⟨by rw [h]; simp, hd.below _⟩
theorem w_same (A B : Option Addr) (n c m d : Nat) (L M : List Int) (h1 : wordB L = true) (h2 : wordB M = true) (h : normalL L = normalL M) (w : World) (hA : Ints w A n L) (hB : Ints w B m M) :
    Calls Tryd.prog 70 #[.slice A n c, .slice B m d] w fun e w' => e = .returned (.tuple #[.bool true, .int .i64 0]) ∧ Below w.heap.size w w' := by
  have := line_Same A B n c m d L M w hA hB
  have he : errS L M = 0 := by unfold errS; rw [errW_z h1, if_pos rfl, errW_z h2]
  rw [he, if_pos rfl, show sameB L M = true by unfold sameB; rw [h]; exact beq_self_eq_true _] at this
  exact this
theorem w_mirror (K : Int) (A : Option Addr) (n c : Nat) (L : List Int) (h : validB K L = true) (w : World) (hA : Ints w A n L) :
    Calls Tryd.prog 71 #[.int .i64 K, .slice A n c] w (GivesIE w (L.map (K - ·)) 0) := by
  have := line_Mirror K A n c L w hA
  rw [errF_z h, okL_yes rfl] at this
  exact this.mono fun e w' hg => gives_ie hg
theorem w_turn (A : Option Addr) (n c : Nat) (L : List Int) (h : wordB L = true) (w : World) (hA : Ints w A n L) (hc : n ≤ c) :
    Calls Tryd.prog 72 #[.slice A n c] w (GivesIE w (tnL L) 0) := by
  have := line_Turn A n c L w hA hc
  rw [errW_z h, okL_yes rfl] at this
  exact this.mono fun e w' hg => gives_ie hg
theorem w_forget (K f : Int) (A : Option Addr) (n c : Nat) (L : List Int) (h : validB K L = true) (h1 : 1 ≤ f) (h2 : f ≤ K) (w : World) (hA : Ints w A n L) :
    Calls Tryd.prog 66 #[.int .i64 K, .slice A n c, .int .i64 f] w (GivesIE w (normalL (L.map (dropG f))) 0) := by
  have := line_Forget K f A n c L w hA
  have he : errG K L f = 0 := by unfold errG; rw [errF_z h, if_pos rfl, if_pos ⟨h1, h2⟩]
  rw [he, okL_yes rfl] at this
  exact this.mono fun e w' hg => gives_ie hg
theorem w_normal (A : Option Addr) (n c : Nat) (L : List Int) (h : wordB L = true) (w : World) (hA : Ints w A n L) :
    Calls Tryd.prog 67 #[.slice A n c] w (GivesIE w (normalL L) 0) := by
  have := line_Normal A n c L w hA
  rw [errW_z h, okL_yes rfl] at this
  exact this.mono fun e w' hg => gives_ie hg
end
end Go.Proofs.YtkjcmppaapbabaaDoor
