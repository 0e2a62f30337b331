/-
  Contracts: line.Print and the document's Print, at every list of ints. Conditions: the slice reads, and is not long; the library's tables stand as they were laid.
  Contract: line.Parse, at every string. Condition: the library's tables stand as they were laid.
  Walks: LinePrints and LineParses return true. Conditions: the slice reads; the library's tables stand as they were laid.
-/
import Derived.Test.YtpdkonpnhalecaaDoorD1
import Derived.Test.YtpdkonpnhalecaaDoorJB
import Derived.Test.YtpdkonpnhalecaaDoorJD
import Derived.Test.YtpdkonpnhalecaaDoorJA
import Derived.Test.YtpdkonpnhalecaaDoorE2
namespace Go.Proofs.YtpdkonpnhalecaaDoor
section
open Go.RowKit
def strL (L : List Int) : List ByteArray := L.map fun x => bA (Lib.itoa x)
theorem strL_data (L : List Int) : (strL L).map (·.data.toList) = L.map Lib.itoa := by
  unfold strL
  rw [List.map_map]
  apply List.map_congr_left
  intro x _
  exact bA_list _
theorem itoa_le21 {x : Int} (h : I64 x) : (Lib.itoa x).length ≤ 21 := Lib.itoa_length_le x h.1 h.2
theorem joinTail_len : ∀ {L : List Int}, (∀ x ∈ L, I64 x) → (Lib.joinTail [32] (L.map Lib.itoa)).length ≤ L.length * 22
  | [], _ => by simp [Lib.joinTail]
  | x :: L, h => by
    have ih := joinTail_len (fun y hy => h y (List.mem_cons_of_mem _ hy))
    have hx := itoa_le21 (h x (List.mem_cons_self ..))
    unfold Lib.joinTail at ih ⊢
    simp only [List.map_cons, List.flatten_cons, List.length_append, List.length_cons, List.length_nil] at ih ⊢
    omega
theorem join_len {L : List Int} (h : ∀ x ∈ L, I64 x) : (Lib.join (L.map Lib.itoa) [32]).length ≤ L.length * 22 := by
  cases L with
  | nil => simp [Lib.join_nil]
  | cons x L =>
    rw [List.map_cons, Lib.join_cons]
    have h1 := joinTail_len (fun y hy => h y (List.mem_cons_of_mem _ hy))
    have hx := itoa_le21 (h x (List.mem_cons_self ..))
    simp only [List.length_append, List.length_cons]
    omega
theorem printL_len {L : List Int} (h : ∀ x ∈ L, I64 x) : (printL L).length ≤ L.length * 22 + 1 := by
  unfold printL
  split
  · simp
  · have := join_len h; omega
set_option maxHeartbeats 800000 in
theorem line_PrintA (A : Option Addr) (n c : Nat) (L : List Int) (w : World) (hA : Ints w A n L) (hle : n ≤ 1000) (ht : Tabs w) :
    Calls Tryd.prog 10 #[.slice A n c] w fun e w' => e = .returned (.string (bA (printL L))) ∧ Below w.heap.size w w' := by
  have HL := Lib.hid hA.len
  have HX := Lib.hid hA.fits
  by_cases hz : n = 0
  · have hn0 : ((n : Int) == 0) = true := by simpa using hz
    obtain rfl : L = [] := List.eq_nil_of_length_eq_zero (by rw [HL.out]; exact hz)
    have hr : bA (printL []) = ⟨#[45]⟩ := rfl
    have HR := Lib.hid hr
    clear hr hz
    go_enter Tryd.func10, Tryd.ntmps10
    go_wp2_with fail
    go_ret
    exact ⟨by rw [HR.out]; rfl, Below.refl _ _⟩
  · have hn : 0 < n := by omega
    have hn0 : ((n : Int) == 0) = false := by simpa using (by omega : (n : Int) ≠ 0)
    have HT := Lib.hid ht
    clear hz ht
    go_enter Tryd.func10, Tryd.ntmps10
    go_wp2_with fail
    go_loopw [3, 11] (fun v3 vi wr => ∃ (k : Nat) (A' : Option Addr) (c' : Nat) (S : List ByteArray), k ≤ n ∧ v3 = .slice A' k c' ∧ vi = .int .i64 k ∧ Row wr w.heap.size 1 A' k c' (S.map Value.string) ∧ Below w.heap.size w wr ∧ Hid (S = strL (L.take k))) (fun _ vi _ => n - (intOf vi).toNat)
    case atStart => exact ⟨0, none, 0, [], Nat.zero_le _, rfl, rfl, Row.none_ _ _ _, Below.refl _ _, Lib.hid rfl⟩
    case round =>
      obtain ⟨k, A', c', S, hk, rfl, rfl, hrow, hbr, HS⟩ := hrel
      by_cases hlt : k < n
      · obtain ⟨ad, x, rfl, hx, hx1, hx2, hc⟩ := (hA.below hbr).at_ hlt
        have hI : I64 x := ⟨hx1, hx2⟩
        have HS' : Hid (S ++ [bA (Lib.itoa x)] = strL (L.take (k + 1))) := Lib.hid (by
          rw [HS.out, strL, strL, List.take_add_one, hx.out]
          simp)
        clear hx HS
        obtain ⟨g, hg⟩ : ∃ g : ByteArray, g = bA (Lib.itoa x) := ⟨_, rfl⟩
        rw [← hg] at HS'
        have HG := Lib.hid hg
        have ht2 := HT.out.below hbr
        clear hg
        have hb1 := hbr.size
        go_wp2_with fail
        refine (itoa_any x hI _ ht2).mono ?_
        rintro e w1 ⟨rfl, hb4⟩
        rw [← HG.out]
        have hrow1 := hrow.below hb4
        have hbr1 := below_chain hbr hb4 hb1
        have hb5 := hbr1.size
        clear hrow hbr hb4 hb1 ht2 hI
        go_wp2_with (at_builtin; refine pushStr rfl _ _ rfl hrow1 g rfl rfl (k + 1) rfl (by omega) hb5 ?_)
        intro A2 c2 w2 hrow2 hb2
        have hrow3 : Row w2 w.heap.size 1 A2 (k + 1) c2 ((S ++ [g]).map Value.string) := by simpa using hrow2
        have hb3 := hbr1.trans hb2
        clear hrow2 hb2 hrow1 hbr1 HG
        go_wp2_with fail
        go_roundw
        case rel => exact ⟨k + 1, A2, c2, S ++ [g], by omega, rfl, by go_num, hrow3, hb3, HS'⟩
        case measure => simp [intOf]; omega
      · have hkn : k = n := by omega
        subst hkn
        obtain ⟨g, off, rfl, hg1, hg2⟩ := hrow.form hn
        have hS : S = strL L := by rw [HS.out, List.take_of_length_le (by rw [HL.out]; exact Nat.le_refl _)]
        have hSl : S.length = k := by rw [hS, strL, List.length_map, HL.out]
        have hjl := join_len HX.out
        have J := Tryd.strings_Join g off c' S ⟨#[32]⟩ wr (fun j x hj => hrow.cell (u := .string x) (by rw [List.getElem?_map, hj]; rfl)) hg2 (by omega) (by rw [hSl]; exact hrow.cap) (by rw [hS, strL_data]; have := HL.out; show (Lib.join (L.map Lib.itoa) [32]).length ≤ _; omega)
        rw [hSl, hS, strL_data] at J
        have hr : (⟨(Lib.join (L.map Lib.itoa) [32]).toArray⟩ : ByteArray) = bA (printL L) := by
          unfold printL
          rw [if_neg (by intro e; subst e; have := HL.out; simp at this; omega)]
          rfl
        have J2 : Calls Tryd.prog 25 #[.slice (some ⟨g, off, none⟩) k c', .string ⟨#[32]⟩] wr fun e w' => e = .returned (.string (bA (printL L))) ∧ Below wr.heap.size wr w' := by
          rw [← hr]; exact J
        clear hS hSl HS hrow hjl J hr HT
        obtain ⟨r, hr⟩ : ∃ r, r = bA (printL L) := ⟨_, rfl⟩
        rw [← hr] at J2
        have HR := Lib.hid hr
        clear hr
        go_wp2_with fail
        refine J2.mono ?_
        rintro e w2 ⟨rfl, hb2⟩
        have hb3 := below_chain hbr hb2 hbr.size
        clear hb2 J2 hbr
        go_wp2_with fail
        go_ret
        exact ⟨by rw [HR.out]; rfl, hb3⟩
theorem printL_next {L : List Int} {k : Nat} {x : Int} (hk : 0 < k) (h : L[k]? = some x) : printL (L.take (k + 1)) = (printL (L.take k) ++ [32]) ++ Lib.itoa x := by
  have hlt : k < L.length := (List.getElem?_eq_some_iff.1 h).1
  have h1 : L.take (k + 1) ≠ [] := by intro e; have := congrArg List.length e; rw [List.length_take] at this; simp only [List.length_nil] at this; omega
  have h2 : L.take k ≠ [] := by intro e; have := congrArg List.length e; rw [List.length_take] at this; simp only [List.length_nil] at this; omega
  unfold printL
  rw [if_neg h1, if_neg h2, List.take_add_one, h]
  cases hL : L.take k with
  | nil => exact absurd hL h2
  | cons y M =>
    simp [Lib.join_cons, Lib.joinTail]
set_option maxHeartbeats 1600000 in
theorem ref_PrintA (A : Option Addr) (n c : Nat) (L : List Int) (w : World) (hA : Ints w A n L) (hle : n ≤ 1000) :
    Calls Tryd.prog 11 #[.slice A n c] w fun e w' => e = .returned (.string (bA (printL L))) ∧ Below w.heap.size w w' := by
  have HL := Lib.hid hA.len
  have HX := Lib.hid hA.fits
  by_cases hz : n = 0
  · have hn0 : ((n : Int) == 0) = true := by simpa using hz
    obtain rfl : L = [] := List.eq_nil_of_length_eq_zero (by rw [HL.out]; exact hz)
    have hr : bA (printL []) = ⟨#[45]⟩ := rfl
    have HR := Lib.hid hr
    clear hr hz
    go_enter Tryd.func11, Tryd.ntmps11
    go_wp2_with fail
    go_ret
    exact ⟨by rw [HR.out]; rfl, Below.refl _ _⟩
  · have hn : 0 < n := by omega
    have hn0 : ((n : Int) == 0) = false := by simpa using (by omega : (n : Int) ≠ 0)
    obtain ⟨ad, x0, hadd, hx, hx1, hx2, hc⟩ := hA.at_ hn
    have hI0 : I64 x0 := ⟨hx1, hx2⟩
    have hfirst := Lib.hid (show bA (Lib.itoa x0) = bA (printL (L.take 1)) by
      cases L with
      | nil => have := hx.out; simp at this
      | cons y M =>
        have := hx.out
        simp only [List.getElem?_cons_zero, Option.some.injEq] at this
        subst this
        simp [printL, Lib.join_one])
    subst hadd
    have hc0 : w.cell? ad = some (.int .i64 x0) := by rw [Addr.add_zero'] at hc; exact hc
    clear hz hx hc
    go_enter Tryd.func11, Tryd.ntmps11
    go_wp2_with fail
    refine (ref_numberA x0 hI0 _).mono ?_
    rintro e w1 ⟨rfl, hb1⟩
    clear hI0 hx1 hx2 hc0
    go_wp2_with fail
    go_loopw [3, 4] (fun v3 v4 wr => ∃ (k : Nat) (S : ByteArray), 0 < k ∧ k ≤ n ∧ v4 = .int .i64 k ∧ v3 = .string S ∧ Below w.heap.size w wr ∧ Hid (S = bA (printL (L.take k)))) (fun _ v4 _ => n - (intOf v4).toNat)
    case atStart => exact ⟨1, _, by omega, by omega, rfl, rfl, hb1, hfirst⟩
    case round =>
      obtain ⟨k, S, hk0, hk, rfl, rfl, hbr, HS⟩ := hrel
      clear hb1 hfirst
      by_cases hlt : k < n
      · obtain ⟨_, x, hxa, hx, hx1, hx2, hc⟩ := (hA.below hbr).at_ hlt
        obtain rfl := Option.some.inj hxa
        have hI : I64 x := ⟨hx1, hx2⟩
        have hp := Lib.hid (printL_next hk0 hx.out)
        have hl0 := printL_len (L := L.take k) (fun y hy => HX.out y (List.mem_of_mem_take hy))
        have hl1 : (L.take k).length = k := by rw [List.length_take, HL.out]; omega
        have hl2 := itoa_le21 hI
        have s1 := strAddL (printL (L.take k)) [32] (by omega) (by simp)
        have s2 := strAddL (printL (L.take k) ++ [32]) (Lib.itoa x) (by simp; omega) (by omega)
        rw [show bA [32] = ⟨#[32]⟩ from rfl] at s1
        rw [← HS.out] at s1
        obtain ⟨D, hD⟩ : ∃ D, D = bA (printL (L.take k) ++ [32]) := ⟨_, rfl⟩
        obtain ⟨E, hE⟩ : ∃ E, E = bA ((printL (L.take k) ++ [32]) ++ Lib.itoa x) := ⟨_, rfl⟩
        rw [← hE, ← hD] at s2
        rw [← hD] at s1
        have HS1 := Lib.hid (show E = bA (printL (L.take (k + 1))) by rw [hE, hp.out])
        have i0 : (0 : Int) ≤ (k : Int) := by omega
        have i1 : (k : Int) < (n : Int) := by omega
        clear HS hD hE hx hp hxa hl0 hl1 hl2
        go_wp2_with fail
        refine (ref_numberA x hI _).mono ?_
        rintro e w2 ⟨rfl, hb5⟩
        have hbf := below_chain hbr hb5 hbr.size
        clear hbr hb5
        go_wp2_with fail
        go_roundw
        case rel => exact ⟨k + 1, E, by omega, by omega, by go_num, rfl, hbf, HS1⟩
        case measure => simp [intOf]; omega
      · have hkn : k = n := by omega
        have hS := HS.out
        rw [hkn, List.take_of_length_le (by rw [HL.out]; exact Nat.le_refl _)] at hS
        have HS1 := Lib.hid hS
        have i1 : ¬ (k : Int) < (n : Int) := by omega
        clear HS hS
        go_wp2_with fail
        go_ret
        exact ⟨by rw [HS1.out]; rfl, hbr⟩
end

section
open Go.RowKit
/-- What line.Parse returns: the error, and the list (empty with an error). -/
def parE (s : List UInt8) : Int := if 2000 < s.length then 7 else match parseL s with
  | none => 6
  | some L => if wordB L then 0 else 6
def parR (s : List UInt8) : List Int := if parE s = 0 then (parseL s).getD [] else []
theorem readL_take {ps : List (List UInt8)} : ∀ {k : Nat} {M : List Int} {p : List UInt8}, readL (ps.take k) = some M → ps[k]? = some p → (numF p).2 = true → readL (ps.take (k + 1)) = some (M ++ [(numF p).1]) := by
  induction ps with
  | nil => intro k M p _ h; simp at h
  | cons q ps ih =>
    intro k M p h1 h2 h3
    cases k with
    | zero =>
      simp only [List.getElem?_cons_zero, Option.some.injEq] at h2
      subst h2
      simp only [List.take_zero, readL, Option.some.injEq] at h1
      subst h1
      simp [readL, h3]
    | succ k =>
      simp only [List.getElem?_cons_succ] at h2
      rw [List.take_succ_cons] at h1 ⊢
      unfold readL at h1 ⊢
      split at h1
      · rename_i hq
        obtain ⟨M', hM', rfl⟩ := Option.map_eq_some_iff.1 h1
        rw [if_pos hq, ih hM' h2 h3]
        rfl
      · cases h1
theorem readL_no {ps : List (List UInt8)} {k : Nat} {p : List UInt8} (h2 : ps[k]? = some p) (h3 : (numF p).2 = false) : readL ps = none := by
  induction ps generalizing k with
  | nil => simp at h2
  | cons q ps ih =>
    unfold readL
    cases k with
    | zero =>
      simp only [List.getElem?_cons_zero, Option.some.injEq] at h2
      subst h2
      rw [if_neg (by simp [h3])]
    | succ k =>
      simp only [List.getElem?_cons_succ] at h2
      split
      · rw [ih h2]; rfl
      · rfl
theorem parE_some {s : List UInt8} (h : ¬2000 < s.length) {L : List Int} (hp : parseL s = some L) : parE s = (if wordB L then 0 else 6) ∧ parR s = if wordB L then L else [] := by
  have h1 : parE s = (if wordB L then 0 else 6) := by unfold parE; rw [if_neg h, hp]
  refine ⟨h1, ?_⟩
  unfold parR
  rw [h1, hp]
  cases wordB L <;> simp
theorem parE_none {s : List UInt8} (h : ¬2000 < s.length) (hp : parseL s = none) : parE s = 6 ∧ parR s = [] := by
  have h1 : parE s = 6 := by unfold parE; rw [if_neg h, hp]
  refine ⟨h1, ?_⟩
  unfold parR
  rw [h1, if_neg (by decide)]
theorem split_any (s : List UInt8) (hs : s.length ≤ 100000) (w : World) (ht : Tabs w) :
    Calls Tryd.prog 27 #[.string (bA s), .string ⟨#[32]⟩] w fun e w' => e = .returned (.slice (some ⟨w.heap.size, 0, none⟩) (splt 32 s).length (splt 32 s).length) ∧ w' = w.alloc (.cells ((splt 32 s).map fun p => Value.string (bA p)).toArray 9) := by
  obtain ⟨m, hm⟩ := ht.most
  refine (Tryd.strings_Split (bA s) ⟨#[32]⟩ m w (by rw [bA_size]; omega) hm (by decide)).mono ?_
  rintro e w' ⟨rfl, rfl⟩
  have h1 : Lib.splitB ⟨#[32]⟩ 0 (Lib.countB (bA s) ⟨#[32]⟩) (bA s) = (splt 32 s).map bA := splitB_splt 32 s
  have h2 : Lib.countB (bA s) ⟨#[32]⟩ + 1 = (splt 32 s).length := by
    rw [splt_len]
    congr 1
    exact Lib.count_one 32 s
  rw [h1, h2, List.map_map]
  exact ⟨rfl, rfl⟩
theorem gives_as {w w' : World} {L M : List Int} {er er' : Int} {e : Ending} (h : Gives w L er e w') (hL : M = L) (he : er' = er) : Gives w M er' e w' := by
  subst hL he
  exact h
set_option maxHeartbeats 1600000 in
theorem line_ParseA (s : List UInt8) (w : World) (ht : Tabs w) : Calls Tryd.prog 12 #[.string (bA s)] w (Gives w (parR s) (parE s)) := by
  have hsl : (bA s).size = s.length := bA_size s
  by_cases hlong : 2000 < s.length
  · have he : parE s = 7 := by unfold parE; rw [if_pos hlong]
    have hr : parR s = [] := by unfold parR; rw [he, if_neg (by decide)]
    rw [hr, he]
    have i0 : (2000 : Int) < (s.length : Int) := by omega
    have i1 : decide ((s.length : Int) > 2000) = true := by simp; omega
    clear he hr
    go_enter Tryd.func12, Tryd.ntmps12
    go_wp2_with fail
    go_ret2
    exact gives_nil rfl (Below.refl _ _)
  · have i0 : ¬ (2000 : Int) < (s.length : Int) := by omega
    have i1 : decide ((s.length : Int) > 2000) = false := by simp; omega
    by_cases hd : s = [45]
    · subst hd
      obtain ⟨he, hr⟩ := parE_some (s := [45]) (L := []) hlong rfl
      rw [he, hr]
      have hb : bA [45] = ⟨#[45]⟩ := rfl
      rw [hb] at hsl ⊢
      have hw : wordB [] = true := rfl
      rw [hw]
      clear he hr hb hw i0 i1 hlong hsl ht
      go_enter Tryd.func12, Tryd.ntmps12
      go_wp2_with fail
      go_ret2
      exact gives_nil rfl (Below.refl _ _)
    · have d0 : ((bA s).toList == [45]) = false := by rw [bA_toList]; simpa using hd
      have d1 : (bA s).toList ≠ [45] := by rw [bA_toList]; exact hd
      have hps : parseL s = readL (splt 32 s) := by unfold parseL; rw [if_neg hd]
      have hsp := split_any s (by omega) w ht
      have hpc := splt_piece 32 s
      have hcn := splt_len 32 s
      have hcl : s.count 32 ≤ s.length := List.count_le_length
      obtain ⟨ps, hq⟩ : ∃ ps, ps = splt 32 s := ⟨_, rfl⟩
      rw [← hq] at hps hsp hpc hcn
      obtain ⟨N, hN⟩ : ∃ N, N = ps.length := ⟨_, rfl⟩
      rw [← hN] at hsp hcn
      have HN := Lib.hid hN
      have HPS := Lib.hid hps
      have HSP := Lib.hid hsp
      have HPC := Lib.hid hpc
      have hN2 : N ≤ 100000 := by omega
      have HLONG := Lib.hid hlong
      have HT := Lib.hid ht
      clear hq hN hps hsp hpc hcn hcl hd hlong ht
      go_enter Tryd.func12, Tryd.ntmps12
      go_wp2_with fail
      refine HSP.out.mono ?_
      rintro e w1 ⟨rfl, rfl⟩
      have hb0 : Below w.heap.size w (w.alloc (.cells (ps.map fun p => Value.string (bA p)).toArray 9)) := (Below.refl _ _).alloc (Nat.le_refl _) _
      have hcell : ∀ k p, ps[k]? = some p → (w.alloc (.cells (ps.map fun p => Value.string (bA p)).toArray 9)).cell? ⟨w.heap.size, k, none⟩ = some (.string (bA p)) := by
        intro k p hp
        rw [World.cell?_alloc_at _ _ _ _ rfl]
        simp [hp]
      have hsz0 : w.heap.size < (w.alloc (.cells (ps.map fun p => Value.string (bA p)).toArray 9)).heap.size := by simp
      generalize w.alloc (.cells (ps.map fun p => Value.string (bA p)).toArray 9) = W at hb0 hcell hsz0 ⊢
      have HC := Lib.hid hcell
      clear hcell HSP
      go_wp2_with fail
      go_loopw [4, 17] (fun v4 v17 wr => ∃ (k : Nat) (A' : Option Addr) (c' : Nat) (M : List Int), k ≤ N ∧ v17 = .int .i64 k ∧ v4 = .slice A' k c' ∧ Own wr W.heap.size A' k c' M ∧ Below W.heap.size W wr ∧ Hid (readL (ps.take k) = some M)) (fun _ v17 _ => N - (intOf v17).toNat)
      case atStart => exact ⟨0, none, 0, [], Nat.zero_le _, rfl, rfl, Own.nil _ _, Below.refl _ _, Lib.hid rfl⟩
      case round =>
        obtain ⟨k, A', c', M, hk, rfl, rfl, hown, hbr, HR⟩ := hrel
        have hbw := below_chain hb0 hbr hb0.size
        by_cases hlt : k < N
        · obtain ⟨p, hp⟩ : ∃ p, ps[k]? = some p := ⟨_, List.getElem?_eq_getElem (by rw [← HN.out]; exact hlt)⟩
          have hcp : wr.cell? ⟨w.heap.size, k, none⟩ = some (.string (bA p)) := (hbr.cell (p := ⟨w.heap.size, k, none⟩) hsz0).trans (HC.out k p hp)
          have hpl : p.length ≤ 100000 := by
            have := HPC.out p (List.mem_of_getElem? hp)
            have := HLONG.out
            omega
          have hI : I64 (numF p).1 := numF_bounds p
          have hat := atoi_any p hpl wr (HT.out.below hbw)
          have hyes : (numF p).2 = true → Hid (readL (ps.take (k + 1)) = some (M ++ [(numF p).1])) := fun h => Lib.hid (readL_take HR.out hp h)
          have hno : (numF p).2 = false → Hid (parE s = 6 ∧ parR s = []) := fun h => Lib.hid (parE_none HLONG.out (by rw [HPS.out]; exact readL_no hp h))
          have HP := Lib.hid hp
          generalize numF p = nf at hI hat hyes hno ⊢
          obtain ⟨v, nb⟩ := nf
          simp only [] at hI hat hyes hno
          have HAT := Lib.hid hat
          have HI := Lib.hid hI
          have hbs := hbw.size
          clear hp hat hI HR
          cases nb with
          | true =>
            have hy := hyes rfl
            clear hyes hno
            go_wp2_with fail
            refine HAT.out.mono ?_
            rintro e w2 ⟨x, rfl, hx, hb2⟩
            obtain ⟨rfl, hq⟩ : x = .nilIface ∧ true = (Lib.itoa v == p) := by
              rcases hx with h | ⟨h, _⟩
              · exact h
              · cases h
            have h3 := same_text (Lib.itoa v) p
            rw [← hq] at h3
            have hbw2 := below_chain hbw hb2 hbs
            have hbr2 := below_chain hbr hb2 hbr.size
            have hown2 := hown.below hb2
            have ht2 := HT.out.below hbw2
            clear hq hx hown hb2 hcp HAT hbw hbr
            go_wp2_with fail
            refine (itoa_any v HI.out _ ht2).mono ?_
            rintro e w3 ⟨rfl, hb3⟩
            have hbw3 := below_chain hbw2 hb3 hbw2.size
            have hbr3 := below_chain hbr2 hb3 hbr2.size
            have hown3 := hown2.below hb3
            have hsz := hbr3.size
            clear hown2 hb3 hbw2 hbr2 ht2
            go_wp2_with (at_builtin; refine app1n rfl _ _ rfl hown3 v rfl rfl HI.out (by omega) hsz ?_)
            intro B' d' w4 hown4 hb4 _ _
            clear hown3 h3
            have hbr4 : Below W.heap.size W w4 := hbr3.trans hb4
            go_wp2_with fail
            go_roundw
            case rel => exact ⟨k + 1, B', d', _, by omega, by go_num, rfl, hown4, hbr4, hy⟩
            case measure => simp [intOf]; omega
          | false =>
            have hn := hno rfl
            clear hyes hno
            go_wp2_with fail
            refine HAT.out.mono ?_
            rintro e w2 ⟨x, rfl, hx, hb2⟩
            have hbw2 := below_chain hbw hb2 hbs
            rcases hx with ⟨rfl, hq⟩ | ⟨_, t, q, rfl⟩
            · have h3 := same_text (Lib.itoa v) p
              rw [← hq] at h3
              have ht2 := HT.out.below hbw2
              clear hq hb2 hown
              go_wp2_with fail
              refine (itoa_any v HI.out _ ht2).mono ?_
              rintro e w3 ⟨rfl, hb3⟩
              have hbw3 := below_chain hbw2 hb3 hbw2.size
              clear ht2 hb3
              go_wp2_with fail
              go_ret2
              exact gives_as (gives_nil rfl hbw3) hn.out.2 hn.out.1
            · clear hb2 hown
              go_wp2_with fail
              go_ret2
              exact gives_as (gives_nil rfl hbw2) hn.out.2 hn.out.1
        · have hkn : k = N := by omega
          subst hkn
          have hR := HR.out
          rw [List.take_of_length_le (by rw [HN.out]; exact Nat.le_refl _)] at hR
          obtain ⟨he, hr⟩ := parE_some HLONG.out (HPS.out.trans hR)
          have hin := hown.ints
          have HE := Lib.hid he
          have HR2 := Lib.hid hr
          clear he hr hR HR
          rcases Bool.eq_false_or_eq_true (wordB M) with hw | hw
          · have hwc := line_word A' k c' M wr hin
            rw [hw] at hwc
            have HW := Lib.hid hwc
            have HB := Lib.hid hw
            clear hw hwc hin
            go_wp2_with fail
            refine HW.out.mono ?_
            rintro e w2 ⟨rfl, rfl⟩
            go_wp2_with fail
            go_ret2
            exact gives_as (gives_own (hown.mono hb0.size) rfl hbw) (by rw [HR2.out, HB.out]; rfl) (by rw [HE.out, HB.out]; rfl)
          · have hwc := line_word A' k c' M wr hin
            rw [hw] at hwc
            have HW := Lib.hid hwc
            have HB := Lib.hid hw
            clear hw hwc hin
            go_wp2_with fail
            refine HW.out.mono ?_
            rintro e w2 ⟨rfl, rfl⟩
            go_wp2_with fail
            go_ret2
            exact gives_as (gives_nil rfl hbw) (by rw [HR2.out, HB.out]; rfl) (by rw [HE.out, HB.out]; rfl)
end

section
open Go.RowKit
theorem itoa_two {x : Int} (h0 : 0 ≤ x) (h1 : x ≤ 40) : (Lib.itoa x).length ≤ 2 := by
  unfold Lib.itoa
  rw [if_neg (by omega)]
  by_cases h : x.toNat < 10
  · rw [digits_one h]; simp
  · rw [digits_more h, digits_one (u := x.toNat / 10) (by omega), digits_one (u := x.toNat % 10) (by omega)]; simp
theorem joinTail_two : ∀ {L : List Int}, (∀ x ∈ L, 0 ≤ x ∧ x ≤ 40) → (Lib.joinTail [32] (L.map Lib.itoa)).length ≤ L.length * 3
  | [], _ => by simp [Lib.joinTail]
  | x :: L, h => by
    have ih := joinTail_two (fun y hy => h y (List.mem_cons_of_mem _ hy))
    have hx := itoa_two (h x (List.mem_cons_self ..)).1 (h x (List.mem_cons_self ..)).2
    unfold Lib.joinTail at ih ⊢
    simp only [List.map_cons, List.flatten_cons, List.length_append, List.length_cons, List.length_nil] at ih ⊢
    omega
theorem printL_word {L : List Int} (h : wordB L = true) : (printL L).length ≤ 1201 := by
  unfold wordB at h
  simp only [Bool.and_eq_true, decide_eq_true_eq, List.all_eq_true] at h
  obtain ⟨⟨_, h2⟩, h3⟩ := h
  have h4 : ∀ x ∈ L, 0 ≤ x ∧ x ≤ 40 := fun x hx => by
    have := h3 x hx
    unfold inB at this
    simpa using this
  unfold printL
  split
  · simp
  · cases L with
    | nil => simp [Lib.join_nil]
    | cons x L =>
      rw [List.map_cons, Lib.join_cons]
      have ih := joinTail_two (fun y hy => h4 y (List.mem_cons_of_mem _ hy))
      have hx := itoa_two (h4 x (List.mem_cons_self ..)).1 (h4 x (List.mem_cons_self ..)).2
      simp only [List.length_append, List.length_cons] at h2 ⊢
      omega
/-- The printed list read again. -/
theorem par_print {L : List Int} (hI : ∀ x ∈ L, I64 x) : (wordB L = true → parE (printL L) = 0 ∧ parR (printL L) = L) ∧ (wordB L = false → (parE (printL L) = 6 ∨ parE (printL L) = 7) ∧ parR (printL L) = []) := by
  have hp := parseL_print hI
  refine ⟨fun h => ?_, fun h => ?_⟩
  · obtain ⟨h1, h2⟩ := parE_some (s := printL L) (by have := printL_word h; omega) hp
    rw [h1, h2, h]
    exact ⟨rfl, rfl⟩
  · by_cases hl : 2000 < (printL L).length
    · have he : parE (printL L) = 7 := by unfold parE; rw [if_pos hl]
      exact ⟨.inr he, by unfold parR; rw [he, if_neg (by decide)]⟩
    · obtain ⟨h1, h2⟩ := parE_some hl hp
      rw [h1, h2, h]
      exact ⟨.inl rfl, rfl⟩
set_option maxHeartbeats 1600000 in
theorem linePrints_any (A : Option Addr) (n c : Nat) (L : List Int) (w : World) (hA : Ints w A n L) (_hcap : n ≤ c) (ht : Tabs w) :
    Calls Tryd.prog 4 #[.slice A n c] w fun e w' => e = .returned (.bool true) ∧ Below w.heap.size w w' := by
  by_cases hlong : 1000 < n
  · have i0 : (1000 : Int) < (n : Int) := by omega
    have i1 : decide ((n : Int) > 1000) = true := by simp; omega
    clear hlong ht
    go_enter Tryd.func4, Tryd.ntmps4
    go_wp2_with fail
    refine (law_known _).mono ?_
    rintro e w1 ⟨rfl, hb⟩
    go_wp2_with fail
    go_ret
    exact ⟨rfl, hb⟩
  · have i0 : ¬ (1000 : Int) < (n : Int) := by omega
    have i1 : decide ((n : Int) > 1000) = false := by simp; omega
    have hpr := line_PrintA A n c L w hA (by omega) ht
    obtain ⟨T, hT⟩ : ∃ T, T = printL L := ⟨_, rfl⟩
    have hpp := par_print hA.fits
    rw [← hT] at hpr hpp
    have HP := Lib.hid hpr
    have HPP := Lib.hid hpp
    have hle : n ≤ 1000 := by omega
    have n0 : ((bA T).toList != (bA T).toList) = false := by simp
    have HT := Lib.hid hT
    have HTB := Lib.hid ht
    clear hpr hpp hT hlong ht
    go_enter Tryd.func4, Tryd.ntmps4
    go_wp2_with fail
    refine HP.out.mono ?_
    rintro e w1 ⟨rfl, hb1⟩
    have hA1 := hA.below hb1
    have hrp := ref_PrintA A n c L w1 hA1 hle
    rw [← HT.out] at hrp
    have HRP := Lib.hid hrp
    clear hrp HP
    go_wp2_with fail
    refine HRP.out.mono ?_
    rintro e w2 ⟨rfl, hb2⟩
    have hb3 := below_chain hb1 hb2 hb1.size
    have hA2 := hA1.below hb2
    clear hb1 hb2 HRP hA1
    have hpa := line_ParseA T w2 (HTB.out.below hb3)
    rcases Bool.eq_false_or_eq_true (wordB L) with hw | hw
    · obtain ⟨he, hr⟩ := HPP.out.1 hw
      rw [he, hr] at hpa
      have HPA := Lib.hid hpa
      have HW := Lib.hid hw
      clear hpa he hr hw
      go_wp2_with fail
      refine HPA.out.mono ?_
      rintro e w3 ⟨X, cX, rfl, hX, hb4⟩
      have hb5 := below_chain hb3 hb4 hb3.size
      have hA3 := hA2.below hb4
      have hX1 := hX.ints
      clear hb3 hb4 hA2 hX HPA
      go_wp2_with (first | (go_at_call 13; refine (ref_word_is HW.out _ _ _ _ hA3).mono ?_; rintro e w' ⟨rfl, rfl⟩))
      refine (ref_equal _ _ _ _ _ _ _ _ _ hX1 hA3).mono ?_
      have hself : (L == L) = true := beq_self_eq_true L
      rw [hself]
      clear hself
      rintro e w4 ⟨rfl, hd⟩
      have hb6 := hb5.trans (hd.below _)
      clear hd hb5 hX1 hA3
      go_wp2_with fail
      refine (law_known _).mono ?_
      rintro e w5 ⟨rfl, hb7⟩
      have hb8 := below_chain hb6 hb7 hb6.size
      go_wp2_with fail
      go_ret
      exact ⟨rfl, hb8⟩
    · obtain ⟨he, hr⟩ := HPP.out.2 hw
      rw [hr] at hpa
      obtain ⟨er, her⟩ : ∃ er, er = parE T := ⟨_, rfl⟩
      rw [← her] at hpa he
      have hne : (er != 0) = true := by rcases he with h | h <;> rw [h] <;> rfl
      have HPA := Lib.hid hpa
      have HW := Lib.hid hw
      clear hpa he hr hw her
      go_wp2_with fail
      refine HPA.out.mono ?_
      rintro e w3 ⟨X, cX, rfl, _, hb4⟩
      have hb5 := below_chain hb3 hb4 hb3.size
      have hA3 := hA2.below hb4
      clear hb3 hb4 hA2 HPA
      go_wp2_with (first | (go_at_call 13; refine (ref_word_is HW.out _ _ _ _ hA3).mono ?_; rintro e w' ⟨rfl, rfl⟩))
      refine (law_known _).mono ?_
      rintro e w5 ⟨rfl, hb7⟩
      have hb8 := below_chain hb5 hb7 hb5.size
      go_wp2_with fail
      go_ret
      exact ⟨rfl, hb8⟩
/-- What a string's reading can give. -/
theorem par_three (s : List UInt8) (h : ¬2000 < s.length) : (parE s = 6 ∧ parR s = []) ∨ (parE s = 0 ∧ wordB (parR s) = true ∧ printL (parR s) = s) := by
  cases hp : parseL s with
  | none => exact .inl (parE_none h hp)
  | some L =>
    obtain ⟨h1, h2⟩ := parE_some h hp
    rcases Bool.eq_false_or_eq_true (wordB L) with hw | hw
    · rw [h1, h2, hw]
      exact .inr ⟨rfl, hw, (parseL_sound hp).1⟩
    · rw [h1, h2, hw]
      exact .inl ⟨rfl, rfl⟩
set_option maxHeartbeats 1600000 in
theorem lineParses_any (s : List UInt8) (w : World) (ht : Tabs w) :
    Calls Tryd.prog 5 #[.string (bA s)] w fun e w' => e = .returned (.bool true) ∧ Below w.heap.size w w' := by
  have hsl : (bA s).size = s.length := bA_size s
  have hpa := line_ParseA s w ht
  by_cases hlong : 2000 < s.length
  · have he : parE s = 7 := by unfold parE; rw [if_pos hlong]
    have hr : parR s = [] := by unfold parR; rw [he, if_neg (by decide)]
    rw [hr, he] at hpa
    have HPA := Lib.hid hpa
    have i0 : (2000 : Int) < (s.length : Int) := by omega
    have i1 : decide ((s.length : Int) > 2000) = true := by simp; omega
    clear hpa he hr hlong ht
    go_enter Tryd.func5, Tryd.ntmps5
    go_wp2_with fail
    refine HPA.out.mono ?_
    rintro e w3 ⟨X, cX, rfl, _, hb4⟩
    go_wp2_with fail
    refine (law_known _).mono ?_
    rintro e w5 ⟨rfl, hb7⟩
    have hb8 := below_chain hb4 hb7 hb4.size
    go_wp2_with fail
    go_ret
    exact ⟨rfl, hb8⟩
  · have h3 := par_three s hlong
    have i0 : ¬ (2000 : Int) < (s.length : Int) := by omega
    have i1 : decide ((s.length : Int) > 2000) = false := by simp; omega
    clear hlong ht
    rcases h3 with ⟨he, hr⟩ | ⟨he, hw, hp⟩
    · rw [hr, he] at hpa
      have HPA := Lib.hid hpa
      clear hpa he hr
      go_enter Tryd.func5, Tryd.ntmps5
      go_wp2_with fail
      refine HPA.out.mono ?_
      rintro e w3 ⟨X, cX, rfl, _, hb4⟩
      go_wp2_with fail
      refine (law_known _).mono ?_
      rintro e w5 ⟨rfl, hb7⟩
      have hb8 := below_chain hb4 hb7 hb4.size
      go_wp2_with fail
      go_ret
      exact ⟨rfl, hb8⟩
    · rw [he] at hpa
      obtain ⟨M, hM⟩ : ∃ M, M = parR s := ⟨_, rfl⟩
      rw [← hM] at hpa hw hp
      have HPA := Lib.hid hpa
      have HW := Lib.hid hw
      have HP := Lib.hid hp
      have hml : M.length ≤ 1000 := by
        unfold wordB at hw
        simp only [Bool.and_eq_true, decide_eq_true_eq] at hw
        omega
      have n0 : ((bA s).toList == (bA s).toList) = true := beq_self_eq_true _
      clear hpa he hM hw hp
      go_enter Tryd.func5, Tryd.ntmps5
      go_wp2_with fail
      refine HPA.out.mono ?_
      rintro e w3 ⟨X, cX, rfl, hX, hb4⟩
      have hX1 := hX.ints
      have hrp := ref_PrintA X M.length cX M w3 hX1 hml
      rw [HP.out] at hrp
      have HRP := Lib.hid hrp
      clear hrp hX HPA
      go_wp2_with (first | (go_at_call 13; refine (ref_word_is HW.out _ _ _ _ hX1).mono ?_; rintro e w' ⟨rfl, rfl⟩))
      refine HRP.out.mono ?_
      rintro e w4 ⟨rfl, hb5⟩
      have hb6 := below_chain hb4 hb5 hb4.size
      clear hb4 hb5 hX1 HRP
      go_wp2_with fail
      refine (law_known _).mono ?_
      rintro e w5 ⟨rfl, hb7⟩
      have hb8 := below_chain hb6 hb7 hb6.size
      go_wp2_with fail
      go_ret
      exact ⟨rfl, hb8⟩
end
end Go.Proofs.YtpdkonpnhalecaaDoor
