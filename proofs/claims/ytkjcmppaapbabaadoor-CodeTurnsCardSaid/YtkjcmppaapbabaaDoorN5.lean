/-
  Contracts: word, Print at codes whose numbers are below 100. Conditions: the letters read; the numbers are small.
-/
import Derived.Test.YtkjcmppaapbabaaDoorJG
import Derived.Test.YtkjcmppaapbabaaDoorItoa
import Derived.StillTailTactics
import Derived.Laws.Concat
namespace Go.Proofs.YtkjcmppaapbabaaDoor
open Go.RowKit
def bytesOf (x : Int) : ByteArray := ⟨(Lib.decDigits x.toNat).toArray⟩
def signB (s : Int) : ByteArray := if s = 1 then ⟨#[43]⟩ else if s = -1 then ⟨#[45]⟩ else ⟨#[63]⟩
def overB (o : Bool) : ByteArray := if o then ⟨#[111]⟩ else ⟨#[117]⟩
def ltStr (l : Lt) : ByteArray := if l.kind = 1 then bytesOf l.gate ++ ⟨#[46]⟩ ++ bytesOf l.rank else if l.kind = 2 then bytesOf l.id ++ overB l.over ++ signB l.sign else ⟨#[63]⟩
theorem itoaB (i : Nat) (hi : i < 100) (w : World) : Calls Tryd.prog 113 #[.int .i64 i] w fun e w' => e = .returned (.string (bytesOf i)) ∧ w' = w := Tryd.strconv_Itoa_small i hi w
def Small (x : Int) : Prop := 0 ≤ x ∧ x < 100
theorem digits_all : (List.range 100).all (fun i => decide ((Lib.decDigits i).length ≤ 2)) = true := by kernel_rfl
theorem digits_len (i : Nat) (h : i < 100) : (Lib.decDigits i).length ≤ 2 := by
  have := List.all_eq_true.1 digits_all i (List.mem_range.2 h)
  simpa using this
theorem bytes_len {i : Nat} (h : i < 100) : (bytesOf (i : Int)).size ≤ 2 := by
  have := digits_len i h
  simpa [bytesOf, ByteArray.size] using this
theorem strAdd (a b : ByteArray) (ha : a.size ≤ 100000) (hb : b.size ≤ 100000) : ∀ w, (Op.stringOp .add a b).run Tryd.prog w = .ok (.string (a ++ b)) w := fun w => run_string_add_sum w a b (by omega)
theorem overB_size (o : Bool) : (overB o).size = 1 := by cases o <;> rfl
theorem signB_size (s : Int) : (signB s).size = 1 := by unfold signB; split <;> (try split) <;> rfl
set_option maxRecDepth 100000 in
set_option maxHeartbeats 1600000 in
theorem code_word (l : Lt) (w : World) (hg : Small l.gate) (hr : Small l.rank) (hi : Small l.id) :
    Calls Tryd.prog 114 #[.agg #[.int .i64 l.kind, .int .i64 l.gate, .int .i64 l.rank, .int .i64 l.id, .int .i64 l.sign, .bool l.over]] w fun e w' => e = .returned (.string (ltStr l)) ∧ Below w.heap.size w w' := by
  have hb0 : Below w.heap.size w (w.alloc (.cells #[.int .i64 l.kind, .int .i64 l.gate, .int .i64 l.rank, .int .i64 l.id, .int .i64 l.sign, .bool l.over] 46)) := (Below.refl _ _).alloc (Nat.le_refl _) _
  obtain ⟨g, hg1⟩ : ∃ g : Nat, l.gate = g := ⟨l.gate.toNat, by unfold Small at hg; omega⟩
  obtain ⟨r, hr1⟩ : ∃ r : Nat, l.rank = r := ⟨l.rank.toNat, by unfold Small at hr; omega⟩
  obtain ⟨i, hi1⟩ : ∃ i : Nat, l.id = i := ⟨l.id.toNat, by unfold Small at hi; omega⟩
  have hg2 : g < 100 := by unfold Small at hg; omega
  have hr2 : r < 100 := by unfold Small at hr; omega
  have hi2 : i < 100 := by unfold Small at hi; omega
  obtain ⟨kind, gate, rank, id, sign, over⟩ := l
  simp only [] at hg1 hr1 hi1
  subst hg1; subst hr1; subst hi1
  clear hg hr hi
  have hG := itoaB g hg2
  have hR := itoaB r hr2
  have hI := itoaB i hi2
  have zG := bytes_len hg2
  have zR := bytes_len hr2
  have zI := bytes_len hi2
  by_cases k1 : kind = 1
  · have q1 : (kind == 1) = true := by simpa using k1
    have hf := show ltStr ⟨kind, g, r, i, sign, over⟩ = bytesOf g ++ ⟨#[46]⟩ ++ bytesOf r by unfold ltStr; rw [if_pos k1]
    clear k1 hI zI
    generalize bytesOf (g : Int) = G at hf hG zG
    generalize bytesOf (r : Int) = R at hf hR zR
    have HF := Lib.hid hf
    have HG := Lib.hid hG
    have HR := Lib.hid hR
    obtain ⟨D, hD⟩ : ∃ D : ByteArray, D = ⟨#[46]⟩ := ⟨_, rfl⟩
    have zD : D.size = 1 := by rw [hD]; rfl
    have s1 := strAdd G D (by omega) (by omega)
    have s2 := strAdd (G ++ D) R (by rw [ByteArray.size_append]; omega) (by omega)
    rw [hD] at s1 s2
    clear hG hR hf hD zD
    go_enter Tryd.func114, Tryd.ntmps114
    go_wp2_with fail
    go_quiet (first | (go_at_call 113; exact Calls.quiet_of_same (HG.out _)) | (go_at_call 113; exact Calls.quiet_of_same (HR.out _)))
    go_wp2_with fail
    go_ret
    exact ⟨by rw [HF.out]; rfl, below_drewN hb0 _⟩
  · have q1 : (kind == 1) = false := by simpa using k1
    by_cases k2 : kind = 2
    · have q2 : (kind == 2) = true := by simpa using k2
      have hf := show ltStr ⟨kind, g, r, i, sign, over⟩ = bytesOf i ++ overB over ++ signB sign by unfold ltStr; rw [if_neg k1, if_pos k2]
      clear k1 k2 hG hR zG zR
      generalize bytesOf (i : Int) = I at hf hI zI
      have HF := Lib.hid hf
      have HI := Lib.hid hI
      obtain ⟨U, hU⟩ : ∃ D : ByteArray, D = ⟨#[117]⟩ := ⟨_, rfl⟩
      obtain ⟨O, hO⟩ : ∃ D : ByteArray, D = ⟨#[111]⟩ := ⟨_, rfl⟩
      obtain ⟨P, hP⟩ : ∃ D : ByteArray, D = ⟨#[43]⟩ := ⟨_, rfl⟩
      obtain ⟨M, hM⟩ : ∃ D : ByteArray, D = ⟨#[45]⟩ := ⟨_, rfl⟩
      obtain ⟨R, hR⟩ : ∃ D : ByteArray, D = ⟨#[63]⟩ := ⟨_, rfl⟩
      have zU : U.size = 1 := by rw [hU]; rfl
      have zO : O.size = 1 := by rw [hO]; rfl
      have zP : P.size = 1 := by rw [hP]; rfl
      have zM : M.size = 1 := by rw [hM]; rfl
      have zR : R.size = 1 := by rw [hR]; rfl
      have s1 := strAdd I U (by omega) (by omega)
      have s2 := strAdd I O (by omega) (by omega)
      have s3 := strAdd (I ++ U) P (by rw [ByteArray.size_append]; omega) (by omega)
      have s4 := strAdd (I ++ U) M (by rw [ByteArray.size_append]; omega) (by omega)
      have s5 := strAdd (I ++ U) R (by rw [ByteArray.size_append]; omega) (by omega)
      have s6 := strAdd (I ++ O) P (by rw [ByteArray.size_append]; omega) (by omega)
      have s7 := strAdd (I ++ O) M (by rw [ByteArray.size_append]; omega) (by omega)
      have s8 := strAdd (I ++ O) R (by rw [ByteArray.size_append]; omega) (by omega)
      rw [hU] at s1 s3 s4 s5
      rw [hO] at s2 s6 s7 s8
      rw [hP] at s3 s6
      rw [hM] at s4 s7
      rw [hR] at s5 s8
      clear hI hf hU hO hP hM hR zU zO zP zM zR zI
      by_cases n1 : sign = 1
      · have t1 : (sign == 1) = true := by simpa using n1
        have HS : Hid (signB sign = ⟨#[43]⟩) := Lib.hid (by unfold signB; rw [if_pos n1])
        clear n1
        cases over
        all_goals
          go_enter Tryd.func114, Tryd.ntmps114
          go_wp2_with (go_at_call 113; refine (HI.out _).mono ?_; rintro e w' ⟨rfl, rfl⟩)
          go_ret
          exact ⟨by rw [HF.out, HS.out]; rfl, hb0⟩
      · have t1 : (sign == 1) = false := by simpa using n1
        by_cases n2 : sign = -1
        · have t2 : (sign == -1) = true := by simpa using n2
          have HS : Hid (signB sign = ⟨#[45]⟩) := Lib.hid (by unfold signB; rw [if_neg n1, if_pos n2])
          clear n1 n2
          cases over
          all_goals
            go_enter Tryd.func114, Tryd.ntmps114
            go_wp2_with (go_at_call 113; refine (HI.out _).mono ?_; rintro e w' ⟨rfl, rfl⟩)
            go_ret
            exact ⟨by rw [HF.out, HS.out]; rfl, hb0⟩
        · have t2 : (sign == -1) = false := by simpa using n2
          have HS : Hid (signB sign = ⟨#[63]⟩) := Lib.hid (by unfold signB; rw [if_neg n1, if_neg n2])
          clear n1 n2
          cases over
          all_goals
            go_enter Tryd.func114, Tryd.ntmps114
            go_wp2_with (go_at_call 113; refine (HI.out _).mono ?_; rintro e w' ⟨rfl, rfl⟩)
            go_ret
            exact ⟨by rw [HF.out, HS.out]; rfl, hb0⟩
    · have q2 : (kind == 2) = false := by simpa using k2
      have HF := Lib.hid (show ltStr ⟨kind, g, r, i, sign, over⟩ = ⟨#[63]⟩ by unfold ltStr; rw [if_neg k1, if_neg k2])
      clear k1 k2 hG hR hI zG zR zI
      go_enter Tryd.func114, Tryd.ntmps114
      go_wp2_with fail
      go_ret
      exact ⟨by rw [HF.out]; rfl, hb0⟩
def printB (K : Int) (L : List Lt) : ByteArray := L.foldl (fun s l => s ++ (⟨#[32]⟩ ++ ltStr l)) (bytesOf K ++ ⟨#[58]⟩)
theorem word_size {l : Lt} (hg : Small l.gate) (hr : Small l.rank) (hi : Small l.id) : (ltStr l).size ≤ 6 := by
  have b : ∀ x : Int, Small x → (bytesOf x).size ≤ 2 := fun x hx => by
    unfold Small at hx
    have := bytes_len (i := x.toNat) (by omega)
    rwa [show ((x.toNat : Nat) : Int) = x by omega] at this
  have h1 := b _ hg
  have h2 := b _ hr
  have h3 := b _ hi
  have h4 := overB_size l.over
  have h5 := signB_size l.sign
  have h6 : (⟨#[46]⟩ : ByteArray).size = 1 := rfl
  have h7 : (⟨#[63]⟩ : ByteArray).size = 1 := rfl
  unfold ltStr
  split
  · rw [ByteArray.size_append, ByteArray.size_append]; omega
  · split
    · rw [ByteArray.size_append, ByteArray.size_append]; omega
    · omega
theorem la_get' {L : List Lt} {i : Nat} (h : i < L.length) : L[i]? = some (la L i) := by unfold la; rw [List.getElem?_eq_getElem h]; rfl
theorem take_next {L : List Lt} {i : Nat} (h : i < L.length) : L.take (i + 1) = L.take i ++ [la L i] := by
  rw [List.take_add_one, la_get' h]; rfl
set_option maxRecDepth 100000 in
set_option maxHeartbeats 1600000 in
theorem code_Print (K : Int) (A : Option Addr) (n c : Nat) (L : List Lt) (w : World) (hA : Lets w A n L) (hn : n ≤ 1000) (hK : Small K) (hx : ∀ l ∈ L, Small l.gate ∧ Small l.rank ∧ Small l.id) :
    Calls Tryd.prog 73 #[.agg #[.int .i64 K, .slice A n c]] w fun e w' => e = .returned (.string (printB K L)) ∧ Below w.heap.size w w' := by
  have hLn := Lib.hid hA.len
  have hbx := Boxed.refl w K A n c
  obtain ⟨k, hk⟩ : ∃ k : Nat, K = k := ⟨K.toNat, by unfold Small at hK; omega⟩
  subst hk
  have hk2 : k < 100 := by unfold Small at hK; omega
  have HX := Lib.hid hx
  clear hK hx
  obtain ⟨S0, hS0⟩ : ∃ S0, S0 = bytesOf (k : Int) ++ ⟨#[58]⟩ := ⟨_, rfl⟩
  have z0 : S0.size ≤ 3 := by
    have h1 := bytes_len hk2
    have h2 : (⟨#[58]⟩ : ByteArray).size = 1 := rfl
    rw [hS0, ByteArray.size_append]; omega
  have hI := itoaB k hk2
  have zI := bytes_len hk2
  have hf : Hid (printB (k : Int) L = L.foldl (fun s l => s ++ (⟨#[32]⟩ ++ ltStr l)) S0) := Lib.hid (by unfold printB; rw [hS0])
  have s0 : ∀ w, (Op.stringOp .add (bytesOf (k : Int)) ⟨#[58]⟩).run Tryd.prog w = .ok (.string S0) w := by
    have h2 : (⟨#[58]⟩ : ByteArray).size = 1 := rfl
    rw [hS0]
    exact strAdd _ _ (by omega) (by omega)
  generalize bytesOf (k : Int) = B at hI s0 hS0 zI
  have HI := Lib.hid hI
  have HS0 := Lib.hid hS0
  clear hI hS0 zI
  have x0 := hbx.c0
  have x1 := hbx.c1
  have hst : Hid (S0 = (L.take 0).foldl (fun s l => s ++ (⟨#[32]⟩ ++ ltStr l)) S0) := Lib.hid rfl
  go_enter Tryd.func73, Tryd.ntmps73
  go_wp2_with (go_at_call 113; refine (HI.out _).mono ?_; rintro e w' ⟨rfl, rfl⟩)
  go_loopw [3, 5, 13] (fun v3 _ v13 wr => ∃ (i : Nat) (S : ByteArray), i ≤ n ∧ v13 = .int .i64 i ∧ v3 = .string S ∧ S.size ≤ 3 + 7 * i ∧ Boxed w wr (k : Int) A n c ∧ Hid (S = (L.take i).foldl (fun s l => s ++ (⟨#[32]⟩ ++ ltStr l)) S0)) (fun _ _ v13 _ => n - (intOf v13).toNat)
  case atStart => exact ⟨0, S0, Nat.zero_le _, rfl, rfl, by omega, hbx, hst⟩
  case round =>
    obtain ⟨i, S, hi, rfl, rfl, hz, hbr, HS⟩ := hrel
    clear hst hbx x0 x1
    by_cases hlt : i < n
    · obtain ⟨gg, o, rfl, hgg, hx, hok⟩ := (hA.below hbr.below).at_ hlt
      obtain ⟨y0, y1, y2, y3, y4, y5⟩ := hx
      have hmem : la L i ∈ L := by
        have := la_get' (L := L) (i := i) (by rw [hLn.out]; exact hlt)
        exact List.mem_of_getElem? this
      obtain ⟨m1, m2, m3⟩ := HX.out _ hmem
      have hw := code_word (la L i)
      have zw := word_size m1 m2 m3
      obtain ⟨W, hW⟩ : ∃ W, W = ltStr (la L i) := ⟨_, rfl⟩
      rw [← hW] at zw
      obtain ⟨D, hD⟩ : ∃ D : ByteArray, D = ⟨#[32]⟩ := ⟨_, rfl⟩
      have zD : D.size = 1 := by rw [hD]; rfl
      have s1 := strAdd D W (by omega) (by omega)
      have s2 := strAdd S (D ++ W) (by omega) (by rw [ByteArray.size_append]; omega)
      have hz2 : (S ++ (D ++ W)).size ≤ 3 + 7 * (i + 1) := by rw [ByteArray.size_append, ByteArray.size_append]; omega
      have HS1 := Lib.hid (show S ++ (D ++ W) = (L.take (i + 1)).foldl (fun s l => s ++ (⟨#[32]⟩ ++ ltStr l)) S0 by
        rw [take_next (by rw [hLn.out]; exact hlt), List.foldl_append, ← HS.out, hD, hW]; rfl)
      rw [hD] at s1 s2 hz2 HS1
      have HW := Lib.hid hW
      have hbs := hbr.size
      clear HS hw zD hD hW hmem
      go_wp2_with fail
      refine (code_word (la L i) _ m1 m2 m3).mono ?_
      rintro e w2 ⟨rfl, hb2⟩
      rw [← HW.out]
      have hbr2 := (hbr.alloc _).more hb2
      clear hb2 hbr
      go_wp2_with fail
      go_roundw
      case rel => exact ⟨i + 1, _, by omega, by go_num, rfl, hz2, hbr2, HS1⟩
      case measure => simp [intOf]; omega
    · have hin : i = n := by omega
      have hS := HS.out
      rw [hin, List.take_of_length_le (by rw [hLn.out]; exact Nat.le_refl _)] at hS
      have HS1 := Lib.hid (hS.trans hf.out.symm)
      have i1 : ¬ (i : Int) < (n : Int) := by omega
      clear hS hin HS
      go_wp2_with fail
      go_ret
      exact ⟨by rw [← HS1.out]; rfl, hbr.below⟩
end Go.Proofs.YtkjcmppaapbabaaDoor
