/-
  Contracts: line.check, line.Reverse, line.Mirror, line.Turn, ref.Turn, line.Circle. Conditions: the slices read as lists of ints.
-/
import Derived.Test.YtnlggiimgihmcaaDoorB2
namespace Go.Proofs.YtnlggiimgihmcaaDoor
open Go.RowKit

/-- A slice with what it reads as. -/
structure SL where
  A : Option Addr
  n : Nat
  c : Nat
  L : List Int
/-- The first error of some words. -/
def errs : List SL → Int
  | [] => 0
  | s :: r => if errW s.L = 0 then errs r else errW s.L
/-- Words that lie behind each other at ad. -/
def Many (w : World) (ad : Addr) (vs : List SL) : Prop := ∀ (j : Nat) (s : SL), vs[j]? = some s → w.cell? (ad.add j) = some (.slice s.A s.n s.c) ∧ Ints w s.A s.n s.L
theorem errs_none {vs : List SL} {k : Nat} (h : vs.length ≤ k) (he : errs (vs.drop k) = errs vs) : errs vs = 0 := by
  rw [List.drop_eq_nil_of_le h] at he; exact he.symm
theorem errs_step {vs : List SL} {k : Nat} {s : SL} (hs : vs[k]? = some s) (he : errs (vs.drop k) = errs vs) (h0 : errW s.L = 0) : errs (vs.drop (k + 1)) = errs vs := by
  rw [← he]
  have hk : k < vs.length := (List.getElem?_eq_some_iff.1 hs).1
  rw [List.drop_eq_getElem_cons hk]
  rw [List.getElem?_eq_getElem hk] at hs
  rw [Option.some.inj hs]
  simp [errs, h0]
theorem errs_hit {vs : List SL} {k : Nat} {s : SL} (hs : vs[k]? = some s) (he : errs (vs.drop k) = errs vs) (h0 : errW s.L ≠ 0) : errs vs = errW s.L := by
  rw [← he]
  have hk : k < vs.length := (List.getElem?_eq_some_iff.1 hs).1
  rw [List.drop_eq_getElem_cons hk]
  rw [List.getElem?_eq_getElem hk] at hs
  rw [Option.some.inj hs]
  simp [errs, h0]

set_option maxHeartbeats 400000 in
theorem line_check (ad : Addr) (n c : Nat) (vs : List SL) (w : World) (hA : Many w ad vs) (hn : vs.length = n) (hle : n ≤ 100) :
    Calls Tryd.prog 56 #[.slice (some ad) n c] w fun e w' => e = .returned (.int .i64 (errs vs)) ∧ w' = w := by
  have HN := Lib.hid hn
  clear hn
  go_enter Tryd.func56, Tryd.ntmps56
  go_wp2_with fail
  go_loop [7] (fun i => ∃ k : Nat, k ≤ n ∧ i = .int .i64 k ∧ Hid (errs (vs.drop k) = errs vs)) (fun i => n - (intOf i).toNat)
  case atStart => exact ⟨0, Nat.zero_le _, rfl, rfl⟩
  case round =>
    obtain ⟨k, hk, rfl, hno⟩ := hrel
    by_cases hlt : k < n
    · have hs := List.getElem?_eq_getElem (show k < vs.length by rw [HN.out]; exact hlt)
      obtain ⟨s, hse⟩ : ∃ s, s = vs[k]'(by rw [HN.out]; exact hlt) := ⟨_, rfl⟩
      rw [← hse] at hs
      clear hse
      obtain ⟨hc, hI⟩ := hA k s hs
      obtain ⟨A, m, d, L⟩ := s
      simp only at hc hI
      have HS := Lib.hid hs
      clear hs
      have hm := hI.le
      have HL := Lib.hid hI.len
      by_cases h : 400 < m
      · have hg : errW L = 7 := by unfold errW; rw [HL.out, if_pos h]
        have hf := Lib.hid (show errs vs = 7 by rw [errs_hit HS.out hno.out (by simp only; rw [hg]; decide), ← hg])
        clear hg
        go_wp2_with fail
        go_ret
        exact ⟨ret_int hf.out.symm, rfl⟩
      · rcases Bool.eq_false_or_eq_true (wordB L) with hw | hw
        · have hg : errW L = 0 := by unfold errW; rw [HL.out, if_neg h, if_pos hw]
          have hf := Lib.hid (errs_step HS.out hno.out hg)
          clear hg
          go_wp2_with (first | (go_at_call 53; refine (line_word _ _ _ _ _ hI).mono ?_; rintro e w' ⟨rfl, rfl⟩))
          go_round
          case rel => exact ⟨k + 1, by omega, by go_num, hf⟩
          case measure => simp [intOf]; omega
        · have hg : errW L = 2 := by unfold errW; rw [HL.out, if_neg h, hw]; rfl
          have hf := Lib.hid (show errs vs = 2 by rw [errs_hit HS.out hno.out (by simp only; rw [hg]; decide), ← hg])
          clear hg
          go_wp2_with (first | (go_at_call 53; refine (line_word _ _ _ _ _ hI).mono ?_; rintro e w' ⟨rfl, rfl⟩))
          go_ret
          exact ⟨ret_int hf.out.symm, rfl⟩
    · go_wp2_with fail
      go_ret
      exact ⟨ret_int (errs_none (by rw [HN.out]; omega) hno.out).symm, rfl⟩

theorem errs_one (A : Option Addr) (n c : Nat) (L : List Int) : errs [⟨A, n, c, L⟩] = errW L := by
  unfold errs
  split
  · rename_i h; simp only at h; rw [h]; rfl
  · rfl
/-- One word in a block of its own. -/
theorem many_one {w : World} {A : Option Addr} {n c : Nat} {L : List Int} {t : TypeId} (hA : Ints w A n L) :
    Many (w.alloc (.cells #[.slice A n c] t)) ⟨w.heap.size, 0, none⟩ [⟨A, n, c, L⟩] := by
  intro j s hs
  match j, hs with
  | 0, hs =>
    simp only [List.getElem?_cons_zero, Option.some.injEq] at hs
    subst hs
    exact ⟨by rw [Addr.add_lit, World.cell?_alloc_at _ _ _ _ rfl]; rfl, hA.alloc _⟩
theorem ret_pair {A : Option Addr} {n n' c : Nat} {e e' : Int} (h : n = n') (h' : e = e') : Ending.returned (.tuple #[.slice A n c, .int .i64 e]) = .returned (.tuple #[.slice A n' c, .int .i64 e']) := by rw [h, h']

/-- What a function of the layer returns: a list where there is no error. -/
def okL (e : Int) (L : List Int) : List Int := if e = 0 then L else []
theorem okL_yes {e : Int} (h : e = 0) (L : List Int) : okL e L = L := if_pos h
theorem okL_no {e : Int} (h : e ≠ 0) (L : List Int) : okL e L = [] := if_neg h
/-- A list and an error are returned. -/
def Gives (w : World) (L : List Int) (er : Int) (e : Ending) (w' : World) : Prop :=
  ∃ A' c', e = .returned (.tuple #[.slice A' L.length c', .int .i64 er]) ∧ Own w' w.heap.size A' L.length c' L ∧ Below w.heap.size w w'
theorem gives_nil {w w' : World} {er : Int} {L : List Int} (h : L = []) (hb : Below w.heap.size w w') : Gives w L er (.returned (.tuple #[.slice none 0 0, .int .i64 er])) w' := by
  subst h
  exact ⟨none, 0, rfl, Own.nil _ _, hb⟩
theorem gives_own {w w' : World} {er : Int} {A : Option Addr} {n c : Nat} {L M : List Int} (h : Own w' w.heap.size A n c M) (hM : M = L) (hb : Below w.heap.size w w') :
    Gives w L er (.returned (.tuple #[.slice A n c, .int .i64 er])) w' := by
  subst hM
  have e := h.len
  subst e
  exact ⟨A, c, rfl, h, hb⟩

set_option maxHeartbeats 400000 in
theorem line_Reverse (A : Option Addr) (n c : Nat) (L : List Int) (w : World) (hA : Ints w A n L) :
    Calls Tryd.prog 37 #[.slice A n c] w (Gives w (okL (errW L) L.reverse) (errW L)) := by
  have hb1 : Below w.heap.size w (w.alloc (.cells #[.slice A n c] 22)) := (Below.refl _ _).alloc (Nat.le_refl _) _
  by_cases h : errW L = 0
  · rw [okL_yes h, h]
    have HE := Lib.hid h
    clear h
    go_enter Tryd.func37, Tryd.ntmps37
    go_wp2_with fail
    refine (line_check _ _ _ _ _ (many_one hA) rfl (by simp)).mono ?_
    rintro e w' ⟨rfl, rfl⟩
    rw [errs_one, HE.out]
    go_wp2_with fail
    refine (line_reverse_ _ _ _ _ _ (hA.alloc _)).mono ?_
    rintro e w1 ⟨A1, c1, rfl, hown, hb⟩
    have hb2 := below_chain hb1 hb hb1.size
    have hown2 := hown.mono hb1.size
    clear hb1 hb hown
    go_wp2_with fail
    go_ret2
    exact gives_own hown2 rfl hb2
  · rw [okL_no h]
    have hne : (errW L != 0) = true := by simpa using h
    have HE := Lib.hid (errs_one A n c L)
    clear h
    obtain ⟨er, her⟩ : ∃ er, er = errW L := ⟨_, rfl⟩
    rw [← her] at hne ⊢
    rw [← her] at HE
    clear her
    go_enter Tryd.func37, Tryd.ntmps37
    go_wp2_with fail
    refine (line_check _ _ _ _ _ (many_one hA) rfl (by simp)).mono ?_
    rintro e w' ⟨rfl, rfl⟩
    rw [HE.out]
    go_wp2_with fail
    go_ret2
    exact gives_nil rfl hb1

set_option maxHeartbeats 400000 in
theorem line_Mirror (K : Int) (A : Option Addr) (n c : Nat) (L : List Int) (w : World) (hA : Ints w A n L) :
    Calls Tryd.prog 39 #[.int .i64 K, .slice A n c] w (Gives w (okL (errF K L) (L.map (K - ·))) (errF K L)) := by
  have hle := hA.le
  have HL := Lib.hid hA.len
  by_cases h : errF K L = 0
  · rw [okL_yes h, h]
    have hv : validB K L = true := by
      unfold errF at h
      by_cases h1 : 400 < L.length
      · rw [if_pos h1] at h; cases h
      · rw [if_neg h1] at h
        cases hv : validB K L
        · rw [hv] at h; cases h
        · rfl
    have hL := in40_of_wordB (wordB_of_validB hv)
    have hK : 0 ≤ K ∧ K ≤ 40 := by
      unfold validB at hv
      simp only [Bool.and_eq_true, decide_eq_true_eq] at hv
      exact hv.1.1
    obtain ⟨hK1, hK2⟩ := hK
    clear hv
    go_enter Tryd.func39, Tryd.ntmps39
    go_wp2_with (first | (go_at_call 61; refine (line_checkFor _ _ _ _ _ _ hA).mono ?_; rintro e w' ⟨rfl, rfl⟩))
    clear h
    go_loopw [7, 18] (fun v i wr => ∃ (k : Nat) (B : Option Addr) (d : Nat) (P : List Int), k ≤ n ∧ i = .int .i64 k ∧ v = .slice B k d ∧ Own wr w'.heap.size B k d P ∧ Below w'.heap.size w' wr ∧ Hid (P = (L.take k).map (K - ·))) (fun _ i _ => n - (intOf i).toNat)
    case atStart => exact ⟨0, none, 0, [], Nat.zero_le _, rfl, rfl, Own.nil _ _, Below.refl _ _, rfl⟩
    case round =>
      obtain ⟨k, B, d, P, hk, rfl, rfl, hown, hb, HP⟩ := hrel
      by_cases hlt : k < n
      · obtain ⟨ad, x, rfl, hx, hx1, hx2, hc⟩ := (hA.below hb).at_ hlt
        obtain ⟨hx3, hx4⟩ := hL.at_ hx.out
        have hsz := hb.size
        go_wp2_with (at_builtin; refine app1 rfl _ _ rfl (hown.alloc _) (K - x) rfl rfl ?c1 ?c2 (by omega) ?c3 ?_)
        case c1 => rw [World.cell?_alloc_at _ _ _ _ rfl]; rfl
        case c2 => unfold I64; omega
        case c3 => first | omega | (simp; omega)
        intro B' d' w1 hown' hb' _ _
        have hbw := (hb.alloc hb.size (.cells #[.int .i64 (K - x)] 3)).trans hb'
        have HP' : Hid (P ++ [K - x] = (L.take (k + 1)).map (K - ·)) := by unfold Hid; rw [map_take_succ _ L k x hx.out, HP.out]
        clear hown hb hb' hc HP
        go_wp2_with fail
        go_roundw
        case rel => exact ⟨k + 1, B', d', _, by omega, by go_num, rfl, hown', hbw, HP'⟩
        case measure => simp [intOf]; omega
      · go_wp2_with fail
        go_ret2
        have hkn : k = n := by omega
        subst hkn
        rw [List.take_of_length_le (by rw [HL.out]; omega)] at HP
        exact gives_own hown HP.out hb
  · rw [okL_no h]
    have hne : (errF K L != 0) = true := by simpa using h
    clear h
    go_enter Tryd.func39, Tryd.ntmps39
    go_wp2_with (first | (go_at_call 61; refine (line_checkFor _ _ _ _ _ _ hA).mono ?_; rintro e w' ⟨rfl, rfl⟩))
    go_ret2
    exact gives_nil rfl (Below.refl _ _)
end Go.Proofs.YtnlggiimgihmcaaDoor
