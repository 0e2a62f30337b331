/-
  Contracts: word, Print at codes whose numbers are below 100. Conditions: the letters read; the numbers are small.
  Contract: the laws' known rows. No condition.
-/
import Derived.Test.YtkjcmppaapbabaaDoorJG
import Derived.Test.YtkjcmppaapbabaaDoorItoa
import Derived.StillTailTactics
import Derived.Laws.Concat
import Derived.Test.YtkjcmppaapbabaaDoorJM
import Derived.Test.YtkjcmppaapbabaaDoorN4
import Derived.Test.YtkjcmppaapbabaaDoorJB
namespace Go.Proofs.YtkjcmppaapbabaaDoor
section
open Go.RowKit
def bytesOf (x : Int) : ByteArray := ⟨(Lib.decDigits x.toNat).toArray⟩
def signB (s : Int) : ByteArray := if s = 1 then ⟨#[43]⟩ else if s = -1 then ⟨#[45]⟩ else ⟨#[63]⟩
def overB (o : Bool) : ByteArray := if o then ⟨#[111]⟩ else ⟨#[117]⟩
def ltStr (l : Lt) : ByteArray := if l.kind = 1 then bytesOf l.gate ++ ⟨#[46]⟩ ++ bytesOf l.rank else if l.kind = 2 then bytesOf l.id ++ overB l.over ++ signB l.sign else ⟨#[63]⟩
theorem itoaB (i : Nat) (hi : i < 100) (w : World) : Calls Tryd.prog 113 #[.int .i64 i] w fun e w' => e = .returned (.string (bytesOf i)) ∧ w' = w := Tryd.strconv_Itoa_small i hi w
def Small (x : Int) : Prop := 0 ≤ x ∧ x < 100
theorem digits_all : (List.range 100).all (fun i => decide ((Lib.decDigits i).length ≤ 2)) = true := by kernel_rfl
theorem digits_len (i : Nat) (h : i < 100) : (Lib.decDigits i).length ≤ 2 := by
  have := List.all_eq_true.1 digits_all i (List.mem_range.2 h)
  simpa using this
theorem bytes_len {i : Nat} (h : i < 100) : (bytesOf (i : Int)).size ≤ 2 := by
  have := digits_len i h
  simpa [bytesOf, ByteArray.size] using this
theorem strAdd (a b : ByteArray) (ha : a.size ≤ 100000) (hb : b.size ≤ 100000) : ∀ w, (Op.stringOp .add a b).run Tryd.prog w = .ok (.string (a ++ b)) w := fun w => run_string_add_sum w a b (by omega)
theorem overB_size (o : Bool) : (overB o).size = 1 := by cases o <;> rfl
theorem signB_size (s : Int) : (signB s).size = 1 := by unfold signB; split <;> (try split) <;> rfl
set_option maxRecDepth 100000 in
set_option maxHeartbeats 1600000 in
theorem code_word (l : Lt) (w : World) (hg : Small l.gate) (hr : Small l.rank) (hi : Small l.id) :
    Calls Tryd.prog 114 #[.agg #[.int .i64 l.kind, .int .i64 l.gate, .int .i64 l.rank, .int .i64 l.id, .int .i64 l.sign, .bool l.over]] w fun e w' => e = .returned (.string (ltStr l)) ∧ Below w.heap.size w w' := by
  have hb0 : Below w.heap.size w (w.alloc (.cells #[.int .i64 l.kind, .int .i64 l.gate, .int .i64 l.rank, .int .i64 l.id, .int .i64 l.sign, .bool l.over] 46)) := (Below.refl _ _).alloc (Nat.le_refl _) _
  obtain ⟨g, hg1⟩ : ∃ g : Nat, l.gate = g := ⟨l.gate.toNat, by unfold Small at hg; omega⟩
  obtain ⟨r, hr1⟩ : ∃ r : Nat, l.rank = r := ⟨l.rank.toNat, by unfold Small at hr; omega⟩
  obtain ⟨i, hi1⟩ : ∃ i : Nat, l.id = i := ⟨l.id.toNat, by unfold Small at hi; omega⟩
  have hg2 : g < 100 := by unfold Small at hg; omega
  have hr2 : r < 100 := by unfold Small at hr; omega
  have hi2 : i < 100 := by unfold Small at hi; omega
  obtain ⟨kind, gate, rank, id, sign, over⟩ := l
  simp only [] at hg1 hr1 hi1
  subst hg1; subst hr1; subst hi1
  clear hg hr hi
  have hG := itoaB g hg2
  have hR := itoaB r hr2
  have hI := itoaB i hi2
  have zG := bytes_len hg2
  have zR := bytes_len hr2
  have zI := bytes_len hi2
  by_cases k1 : kind = 1
  · have q1 : (kind == 1) = true := by simpa using k1
    have hf := show ltStr ⟨kind, g, r, i, sign, over⟩ = bytesOf g ++ ⟨#[46]⟩ ++ bytesOf r by unfold ltStr; rw [if_pos k1]
    clear k1 hI zI
    generalize bytesOf (g : Int) = G at hf hG zG
    generalize bytesOf (r : Int) = R at hf hR zR
    have HF := Lib.hid hf
    have HG := Lib.hid hG
    have HR := Lib.hid hR
    obtain ⟨D, hD⟩ : ∃ D : ByteArray, D = ⟨#[46]⟩ := ⟨_, rfl⟩
    have zD : D.size = 1 := by rw [hD]; rfl
    have s1 := strAdd G D (by omega) (by omega)
    have s2 := strAdd (G ++ D) R (by rw [ByteArray.size_append]; omega) (by omega)
    rw [hD] at s1 s2
    clear hG hR hf hD zD
    go_enter Tryd.func114, Tryd.ntmps114
    go_wp2_with fail
    go_quiet (first | (go_at_call 113; exact Calls.quiet_of_same (HG.out _)) | (go_at_call 113; exact Calls.quiet_of_same (HR.out _)))
    go_wp2_with fail
    go_ret
    exact ⟨by rw [HF.out]; rfl, below_drewN hb0 _⟩
  · have q1 : (kind == 1) = false := by simpa using k1
    by_cases k2 : kind = 2
    · have q2 : (kind == 2) = true := by simpa using k2
      have hf := show ltStr ⟨kind, g, r, i, sign, over⟩ = bytesOf i ++ overB over ++ signB sign by unfold ltStr; rw [if_neg k1, if_pos k2]
      clear k1 k2 hG hR zG zR
      generalize bytesOf (i : Int) = I at hf hI zI
      have HF := Lib.hid hf
      have HI := Lib.hid hI
      obtain ⟨U, hU⟩ : ∃ D : ByteArray, D = ⟨#[117]⟩ := ⟨_, rfl⟩
      obtain ⟨O, hO⟩ : ∃ D : ByteArray, D = ⟨#[111]⟩ := ⟨_, rfl⟩
      obtain ⟨P, hP⟩ : ∃ D : ByteArray, D = ⟨#[43]⟩ := ⟨_, rfl⟩
      obtain ⟨M, hM⟩ : ∃ D : ByteArray, D = ⟨#[45]⟩ := ⟨_, rfl⟩
      obtain ⟨R, hR⟩ : ∃ D : ByteArray, D = ⟨#[63]⟩ := ⟨_, rfl⟩
      have zU : U.size = 1 := by rw [hU]; rfl
      have zO : O.size = 1 := by rw [hO]; rfl
      have zP : P.size = 1 := by rw [hP]; rfl
      have zM : M.size = 1 := by rw [hM]; rfl
      have zR : R.size = 1 := by rw [hR]; rfl
      have s1 := strAdd I U (by omega) (by omega)
      have s2 := strAdd I O (by omega) (by omega)
      have s3 := strAdd (I ++ U) P (by rw [ByteArray.size_append]; omega) (by omega)
      have s4 := strAdd (I ++ U) M (by rw [ByteArray.size_append]; omega) (by omega)
      have s5 := strAdd (I ++ U) R (by rw [ByteArray.size_append]; omega) (by omega)
      have s6 := strAdd (I ++ O) P (by rw [ByteArray.size_append]; omega) (by omega)
      have s7 := strAdd (I ++ O) M (by rw [ByteArray.size_append]; omega) (by omega)
      have s8 := strAdd (I ++ O) R (by rw [ByteArray.size_append]; omega) (by omega)
      rw [hU] at s1 s3 s4 s5
      rw [hO] at s2 s6 s7 s8
      rw [hP] at s3 s6
      rw [hM] at s4 s7
      rw [hR] at s5 s8
      clear hI hf hU hO hP hM hR zU zO zP zM zR zI
      by_cases n1 : sign = 1
      · have t1 : (sign == 1) = true := by simpa using n1
        have HS : Hid (signB sign = ⟨#[43]⟩) := Lib.hid (by unfold signB; rw [if_pos n1])
        clear n1
        cases over
        all_goals
          go_enter Tryd.func114, Tryd.ntmps114
          go_wp2_with (go_at_call 113; refine (HI.out _).mono ?_; rintro e w' ⟨rfl, rfl⟩)
          go_ret
          exact ⟨by rw [HF.out, HS.out]; rfl, hb0⟩
      · have t1 : (sign == 1) = false := by simpa using n1
        by_cases n2 : sign = -1
        · have t2 : (sign == -1) = true := by simpa using n2
          have HS : Hid (signB sign = ⟨#[45]⟩) := Lib.hid (by unfold signB; rw [if_neg n1, if_pos n2])
          clear n1 n2
          cases over
          all_goals
            go_enter Tryd.func114, Tryd.ntmps114
            go_wp2_with (go_at_call 113; refine (HI.out _).mono ?_; rintro e w' ⟨rfl, rfl⟩)
            go_ret
            exact ⟨by rw [HF.out, HS.out]; rfl, hb0⟩
        · have t2 : (sign == -1) = false := by simpa using n2
          have HS : Hid (signB sign = ⟨#[63]⟩) := Lib.hid (by unfold signB; rw [if_neg n1, if_neg n2])
          clear n1 n2
          cases over
          all_goals
            go_enter Tryd.func114, Tryd.ntmps114
            go_wp2_with (go_at_call 113; refine (HI.out _).mono ?_; rintro e w' ⟨rfl, rfl⟩)
            go_ret
            exact ⟨by rw [HF.out, HS.out]; rfl, hb0⟩
    · have q2 : (kind == 2) = false := by simpa using k2
      have HF := Lib.hid (show ltStr ⟨kind, g, r, i, sign, over⟩ = ⟨#[63]⟩ by unfold ltStr; rw [if_neg k1, if_neg k2])
      clear k1 k2 hG hR hI zG zR zI
      go_enter Tryd.func114, Tryd.ntmps114
      go_wp2_with fail
      go_ret
      exact ⟨by rw [HF.out]; rfl, hb0⟩
def printB (K : Int) (L : List Lt) : ByteArray := L.foldl (fun s l => s ++ (⟨#[32]⟩ ++ ltStr l)) (bytesOf K ++ ⟨#[58]⟩)
theorem word_size {l : Lt} (hg : Small l.gate) (hr : Small l.rank) (hi : Small l.id) : (ltStr l).size ≤ 6 := by
  have b : ∀ x : Int, Small x → (bytesOf x).size ≤ 2 := fun x hx => by
    unfold Small at hx
    have := bytes_len (i := x.toNat) (by omega)
    rwa [show ((x.toNat : Nat) : Int) = x by omega] at this
  have h1 := b _ hg
  have h2 := b _ hr
  have h3 := b _ hi
  have h4 := overB_size l.over
  have h5 := signB_size l.sign
  have h6 : (⟨#[46]⟩ : ByteArray).size = 1 := rfl
  have h7 : (⟨#[63]⟩ : ByteArray).size = 1 := rfl
  unfold ltStr
  split
  · rw [ByteArray.size_append, ByteArray.size_append]; omega
  · split
    · rw [ByteArray.size_append, ByteArray.size_append]; omega
    · omega
theorem la_get' {L : List Lt} {i : Nat} (h : i < L.length) : L[i]? = some (la L i) := by unfold la; rw [List.getElem?_eq_getElem h]; rfl
theorem take_next {L : List Lt} {i : Nat} (h : i < L.length) : L.take (i + 1) = L.take i ++ [la L i] := by
  rw [List.take_add_one, la_get' h]; rfl
set_option maxRecDepth 100000 in
set_option maxHeartbeats 1600000 in
theorem code_Print (K : Int) (A : Option Addr) (n c : Nat) (L : List Lt) (w : World) (hA : Lets w A n L) (hn : n ≤ 1000) (hK : Small K) (hx : ∀ l ∈ L, Small l.gate ∧ Small l.rank ∧ Small l.id) :
    Calls Tryd.prog 73 #[.agg #[.int .i64 K, .slice A n c]] w fun e w' => e = .returned (.string (printB K L)) ∧ Below w.heap.size w w' := by
  have hLn := Lib.hid hA.len
  have hbx := Boxed.refl w K A n c
  obtain ⟨k, hk⟩ : ∃ k : Nat, K = k := ⟨K.toNat, by unfold Small at hK; omega⟩
  subst hk
  have hk2 : k < 100 := by unfold Small at hK; omega
  have HX := Lib.hid hx
  clear hK hx
  obtain ⟨S0, hS0⟩ : ∃ S0, S0 = bytesOf (k : Int) ++ ⟨#[58]⟩ := ⟨_, rfl⟩
  have z0 : S0.size ≤ 3 := by
    have h1 := bytes_len hk2
    have h2 : (⟨#[58]⟩ : ByteArray).size = 1 := rfl
    rw [hS0, ByteArray.size_append]; omega
  have hI := itoaB k hk2
  have zI := bytes_len hk2
  have hf : Hid (printB (k : Int) L = L.foldl (fun s l => s ++ (⟨#[32]⟩ ++ ltStr l)) S0) := Lib.hid (by unfold printB; rw [hS0])
  have s0 : ∀ w, (Op.stringOp .add (bytesOf (k : Int)) ⟨#[58]⟩).run Tryd.prog w = .ok (.string S0) w := by
    have h2 : (⟨#[58]⟩ : ByteArray).size = 1 := rfl
    rw [hS0]
    exact strAdd _ _ (by omega) (by omega)
  generalize bytesOf (k : Int) = B at hI s0 hS0 zI
  have HI := Lib.hid hI
  have HS0 := Lib.hid hS0
  clear hI hS0 zI
  have x0 := hbx.c0
  have x1 := hbx.c1
  have hst : Hid (S0 = (L.take 0).foldl (fun s l => s ++ (⟨#[32]⟩ ++ ltStr l)) S0) := Lib.hid rfl
  go_enter Tryd.func73, Tryd.ntmps73
  go_wp2_with (go_at_call 113; refine (HI.out _).mono ?_; rintro e w' ⟨rfl, rfl⟩)
  go_loopw [3, 5, 13] (fun v3 _ v13 wr => ∃ (i : Nat) (S : ByteArray), i ≤ n ∧ v13 = .int .i64 i ∧ v3 = .string S ∧ S.size ≤ 3 + 7 * i ∧ Boxed w wr (k : Int) A n c ∧ Hid (S = (L.take i).foldl (fun s l => s ++ (⟨#[32]⟩ ++ ltStr l)) S0)) (fun _ _ v13 _ => n - (intOf v13).toNat)
  case atStart => exact ⟨0, S0, Nat.zero_le _, rfl, rfl, by omega, hbx, hst⟩
  case round =>
    obtain ⟨i, S, hi, rfl, rfl, hz, hbr, HS⟩ := hrel
    clear hst hbx x0 x1
    by_cases hlt : i < n
    · obtain ⟨gg, o, rfl, hgg, hx, hok⟩ := (hA.below hbr.below).at_ hlt
      obtain ⟨y0, y1, y2, y3, y4, y5⟩ := hx
      have hmem : la L i ∈ L := by
        have := la_get' (L := L) (i := i) (by rw [hLn.out]; exact hlt)
        exact List.mem_of_getElem? this
      obtain ⟨m1, m2, m3⟩ := HX.out _ hmem
      have hw := code_word (la L i)
      have zw := word_size m1 m2 m3
      obtain ⟨W, hW⟩ : ∃ W, W = ltStr (la L i) := ⟨_, rfl⟩
      rw [← hW] at zw
      obtain ⟨D, hD⟩ : ∃ D : ByteArray, D = ⟨#[32]⟩ := ⟨_, rfl⟩
      have zD : D.size = 1 := by rw [hD]; rfl
      have s1 := strAdd D W (by omega) (by omega)
      have s2 := strAdd S (D ++ W) (by omega) (by rw [ByteArray.size_append]; omega)
      have hz2 : (S ++ (D ++ W)).size ≤ 3 + 7 * (i + 1) := by rw [ByteArray.size_append, ByteArray.size_append]; omega
      have HS1 := Lib.hid (show S ++ (D ++ W) = (L.take (i + 1)).foldl (fun s l => s ++ (⟨#[32]⟩ ++ ltStr l)) S0 by
        rw [take_next (by rw [hLn.out]; exact hlt), List.foldl_append, ← HS.out, hD, hW]; rfl)
      rw [hD] at s1 s2 hz2 HS1
      have HW := Lib.hid hW
      have hbs := hbr.size
      clear HS hw zD hD hW hmem
      go_wp2_with fail
      refine (code_word (la L i) _ m1 m2 m3).mono ?_
      rintro e w2 ⟨rfl, hb2⟩
      rw [← HW.out]
      have hbr2 := (hbr.alloc _).more hb2
      clear hb2 hbr
      go_wp2_with fail
      go_roundw
      case rel => exact ⟨i + 1, _, by omega, by go_num, rfl, hz2, hbr2, HS1⟩
      case measure => simp [intOf]; omega
    · have hin : i = n := by omega
      have hS := HS.out
      rw [hin, List.take_of_length_le (by rw [hLn.out]; exact Nat.le_refl _)] at hS
      have HS1 := Lib.hid (hS.trans hf.out.symm)
      have i1 : ¬ (i : Int) < (n : Int) := by omega
      clear hS hin HS
      go_wp2_with fail
      go_ret
      exact ⟨by rw [← HS1.out]; rfl, hbr.below⟩
end

section
open Go.RowKit
def kinkL : List Lt := [lpass 0 1, lcross 1 false 1, lcross 1 true 1, lpass 1 1]
def apartL : List Lt := [lpass 0 1, lcross 1 false 1, lpass 1 1, lcross 1 true 1]
def circL2 : List Lt := [lpass 0 1, lpass 1 1]
theorem kink_ok : checkE 2 kinkL = 0 := by kernel_rfl
theorem apart_no : checkE 1 apartL = 3 := by kernel_rfl
theorem circ_ok : checkE 2 circL2 = 0 := by kernel_rfl
theorem kink_print : printB 2 kinkL = ⟨#[50, 58, 32, 48, 46, 49, 32, 49, 117, 43, 32, 49, 111, 43, 32, 49, 46, 49]⟩ := by kernel_rfl
theorem circ_forE : forE 2 circL2 1 = 0 := by kernel_rfl
theorem circ_forK : forK 2 circL2 1 = 1 := by kernel_rfl
theorem circ_forL : forL 2 circL2 1 = [lpass 0 1, lpass 0 2] := by kernel_rfl
theorem circ_print : printB 1 [lpass 0 1, lpass 0 2] = ⟨#[49, 58, 32, 48, 46, 49, 32, 48, 46, 50]⟩ := by kernel_rfl
theorem circ_faces_len : (facesL 2 circL2).length = 4 := by kernel_rfl
theorem circ_face1 : (facesL 2 circL2)[1]? = some ⟨false, [1], [⟨0, 0⟩, ⟨2, 0⟩, ⟨1, 1⟩], [2], true⟩ := by kernel_rfl
theorem circ_face3 : ((facesL 2 circL2)[3]?).map Fc.above = some true := by kernel_rfl
theorem buildL4E (w : World) : (Instr.buildSlice 22 4 #[(0, .agg #[.int .i64 1, .int .i64 0, .int .i64 1, .int .i64 0, .int .i64 0, .bool false]), (1, .agg #[.int .i64 2, .int .i64 0, .int .i64 0, .int .i64 1, .int .i64 1, .bool false]), (2, .agg #[.int .i64 2, .int .i64 0, .int .i64 0, .int .i64 1, .int .i64 1, .bool true]), (3, .agg #[.int .i64 1, .int .i64 1, .int .i64 1, .int .i64 0, .int .i64 0, .bool false])]).run Tryd.prog w = .ok (.slice (some ⟨w.heap.size, 0, none⟩) 4 4) (w.alloc (.cells (kinkL.flatMap ltC).toArray 46)) := buildL4 (lpass 0 1) (lcross 1 false 1) (lcross 1 true 1) (lpass 1 1) w
theorem buildL4F (w : World) : (Instr.buildSlice 22 4 #[(0, .agg #[.int .i64 1, .int .i64 0, .int .i64 1, .int .i64 0, .int .i64 0, .bool false]), (1, .agg #[.int .i64 2, .int .i64 0, .int .i64 0, .int .i64 1, .int .i64 1, .bool false]), (2, .agg #[.int .i64 1, .int .i64 1, .int .i64 1, .int .i64 0, .int .i64 0, .bool false]), (3, .agg #[.int .i64 2, .int .i64 0, .int .i64 0, .int .i64 1, .int .i64 1, .bool true])]).run Tryd.prog w = .ok (.slice (some ⟨w.heap.size, 0, none⟩) 4 4) (w.alloc (.cells (apartL.flatMap ltC).toArray 46)) := buildL4 (lpass 0 1) (lcross 1 false 1) (lpass 1 1) (lcross 1 true 1) w
theorem kink_lt : ∀ x ∈ kinkL, LtOk x := by
  intro x hx
  simp only [kinkL, List.mem_cons, List.not_mem_nil, or_false] at hx
  rcases hx with rfl | rfl | rfl | rfl <;> first | exact ltok_pass (by unfold I64; omega) (by unfold I64; omega) | exact ltok_cross (by unfold I64; omega) (by unfold I64; omega)
theorem apart_lt : ∀ x ∈ apartL, LtOk x := by
  intro x hx
  simp only [apartL, List.mem_cons, List.not_mem_nil, or_false] at hx
  rcases hx with rfl | rfl | rfl | rfl <;> first | exact ltok_pass (by unfold I64; omega) (by unfold I64; omega) | exact ltok_cross (by unfold I64; omega) (by unfold I64; omega)
theorem circ_small : ∀ l ∈ [lpass 0 1, lpass 0 2], Small l.gate ∧ Small l.rank ∧ Small l.id := by
  intro x hx
  simp only [List.mem_cons, List.not_mem_nil, or_false] at hx
  rcases hx with rfl | rfl <;> simp [Small, lpass]
set_option maxRecDepth 100000 in
theorem eqPl (a b c d : Int) (w : World) : (Op.equalIn 10000 50 (.agg #[.int .i64 a, .int .i64 b]) (.agg #[.int .i64 c, .int .i64 d])).run Tryd.prog w = .ok (a == c && b == d) w := by
  have u3 := Tryd.underlying3
  have a3 := Tryd.isAgg3
  have z3 := Tryd.sizeOf3
  have hS : Tryd.prog.underlying 50 = some (.struct (Tryd.prog.fieldsOf 50)) := by kernel_rfl
  have hp : Tryd.prog.stoodInHeld 50 = false := by kernel_rfl
  rw [show (10000 : Nat) = 9999 + 1 from rfl, run_equalIn_agg w 9999 50 _ _ hS hp]
  simp only [Program.fieldsOf, Tryd.underlying50]
  go_simp
  by_cases h1 : a = c <;> by_cases h2 : b = d <;> simp [h1, h2]
theorem kink_small : ∀ l ∈ kinkL, Small l.gate ∧ Small l.rank ∧ Small l.id := by
  intro x hx
  simp only [kinkL, List.mem_cons, List.not_mem_nil, or_false] at hx
  rcases hx with rfl | rfl | rfl | rfl <;> simp [Small, lpass, lcross]
set_option maxRecDepth 100000 in
set_option maxHeartbeats 3200000 in
theorem law_known (w : World) : Calls Tryd.prog 22 #[] w fun e w' => e = .returned (.bool true) ∧ Below w.heap.size w w' := by
  have hk4 := buildL4E
  have ha4 := buildL4F
  have hbc := build_code2
  have HBW := Lib.hid (Below.refl w.heap.size w)
  go_enter Tryd.func22, Tryd.ntmps22
  go_wp2_with fail
  refine (law_passE 0 1 _).mono ?_
  rintro e w1 ⟨rfl, hb1⟩
  have B1 := Lib.hid (below_chain HBW.out hb1 (Nat.le_refl _))
  clear hb1 HBW
  go_wp2_with fail
  refine (law_crossE 1 1 false _).mono ?_
  rintro e w2 ⟨rfl, hb2⟩
  have B2 := Lib.hid (below_chain B1.out hb2 B1.out.size)
  clear hb2 B1
  go_wp2_with fail
  refine (law_crossE 1 1 true _).mono ?_
  rintro e w3 ⟨rfl, hb3⟩
  have B3 := Lib.hid (below_chain B2.out hb3 B2.out.size)
  clear hb3 B2
  go_wp2_with fail
  refine (law_passE 1 1 _).mono ?_
  rintro e w4 ⟨rfl, hb4⟩
  have B4 := Lib.hid (below_chain B3.out hb4 B3.out.size)
  clear hb4 B3
  go_wp2_with fail
  refine (law_passE 0 1 _).mono ?_
  rintro e w5 ⟨rfl, hb5⟩
  have hk5 : Blk w5 w4.heap.size 46 (kinkL.flatMap ltC).toArray := ((Blk.new w4 _ _).alloc _).below hb5 (by simp; omega)
  have hc5 : Blk w5 (w4.heap.size + 1) 24 #[.int .i64 2, .slice (some ⟨w4.heap.size, 0, none⟩) 4 4] := Blk.below (heap_alloc2_new w4 _ _) hb5 (by simp)
  have B5 := Lib.hid (below_chain ((B4.out.alloc B4.out.size _).alloc (by simp; have := B4.out.size; omega) _) hb5 (by simp; have := B4.out.size; omega))
  have hw4 := B4.out.size
  clear hb5 B4
  go_wp2_with fail
  refine (law_crossE 1 1 false _).mono ?_
  rintro e w6 ⟨rfl, hb6⟩
  have hk6 := hk5.below hb6 hk5.lt
  have hc6 := hc5.below hb6 hc5.lt
  have B6 := Lib.hid (below_chain B5.out hb6 B5.out.size)
  clear hb6 B5 hk5 hc5
  go_wp2_with fail
  refine (law_passE 1 1 _).mono ?_
  rintro e w7 ⟨rfl, hb7⟩
  have hk7 := hk6.below hb7 hk6.lt
  have hc7 := hc6.below hb7 hc6.lt
  have B7 := Lib.hid (below_chain B6.out hb7 B6.out.size)
  clear hb7 B6 hk6 hc6
  go_wp2_with fail
  refine (law_crossE 1 1 true _).mono ?_
  rintro e w8 ⟨rfl, hb8⟩
  have hk8 := hk7.below hb8 hk7.lt
  have hc8 := hc7.below hb8 hc7.lt
  have B8 := Lib.hid (below_chain B7.out hb8 B7.out.size)
  clear hb8 B7 hk7 hc7
  have hw8 := B8.out.size
  go_upto_region 3 with fail
  generalize hX : World.alloc (World.alloc w8 _) _ = X
  have hkX : Blk X w4.heap.size 46 (kinkL.flatMap ltC).toArray := by rw [← hX]; exact (hk8.alloc _).alloc _
  have hcX : Blk X (w4.heap.size + 1) 24 #[.int .i64 2, .slice (some ⟨w4.heap.size, 0, none⟩) 4 4] := by rw [← hX]; exact (hc8.alloc _).alloc _
  have haX : Blk X w8.heap.size 46 (apartL.flatMap ltC).toArray := by rw [← hX]; exact (Blk.new w8 _ _).alloc _
  have hdX : Blk X (w8.heap.size + 1) 24 #[.int .i64 1, .slice (some ⟨w8.heap.size, 0, none⟩) 4 4] := by rw [← hX]; exact heap_alloc2_new w8 _ _
  have BX : Hid (Below w.heap.size w X) := Lib.hid (by rw [← hX]; exact (B8.out.alloc hw8 _).alloc (by simp; omega) _)
  clear hX B8 hk8 hc8
  have c80 : X.cell? ⟨w4.heap.size + 1, 0, none⟩ = some (.int .i64 2) := (hcX.cell 0).trans rfl
  have c81 : X.cell? ⟨w4.heap.size + 1, 1, none⟩ = some (.slice (some ⟨w4.heap.size, 0, none⟩) 4 4) := (hcX.cell 1).trans rfl
  have hkL : OwnL X w.heap.size (some ⟨w4.heap.size, 0, none⟩) 4 4 kinkL := OwnL.block hkX hw4 kink_lt (by simp [kinkL])
  go_wp2_with fail
  refine (code_Check 2 (some ⟨w4.heap.size, 0, none⟩) 4 4 kinkL _ hkL.lets).mono ?_
  rintro e w9 ⟨rfl, hb9⟩
  rw [kink_ok]
  have ha9 := haX.below hb9 haX.lt
  have hd9 := hdX.below hb9 hdX.lt
  have hk9 := hkX.below hb9 hkX.lt
  have hc9 := hcX.below hb9 hcX.lt
  have B9 := Lib.hid (below_chain BX.out hb9 BX.out.size)
  clear hb9 BX hkX hcX haX hdX c80 c81 hkL
  have c90 : w9.cell? ⟨w8.heap.size + 1, 0, none⟩ = some (.int .i64 1) := (hd9.cell 0).trans rfl
  have c91 : w9.cell? ⟨w8.heap.size + 1, 1, none⟩ = some (.slice (some ⟨w8.heap.size, 0, none⟩) 4 4) := (hd9.cell 1).trans rfl
  have haL : OwnL w9 w.heap.size (some ⟨w8.heap.size, 0, none⟩) 4 4 apartL := OwnL.block ha9 hw8 apart_lt (by simp [apartL])
  go_wp2_with fail
  refine (code_Check 1 (some ⟨w8.heap.size, 0, none⟩) 4 4 apartL _ haL.lets).mono ?_
  rintro e w10 ⟨rfl, hb10⟩
  rw [apart_no]
  have hk10 := hk9.below hb10 hk9.lt
  have hc10 := hc9.below hb10 hc9.lt
  have B10 := Lib.hid (below_chain B9.out hb10 B9.out.size)
  clear hb10 B9 hk9 hc9 haL c90 c91 ha9 hd9
  have c100 : w10.cell? ⟨w4.heap.size + 1, 0, none⟩ = some (.int .i64 2) := (hc10.cell 0).trans rfl
  have c101 : w10.cell? ⟨w4.heap.size + 1, 1, none⟩ = some (.slice (some ⟨w4.heap.size, 0, none⟩) 4 4) := (hc10.cell 1).trans rfl
  have hkL : OwnL w10 w.heap.size (some ⟨w4.heap.size, 0, none⟩) 4 4 kinkL := OwnL.block hk10 hw4 kink_lt (by simp [kinkL])
  go_wp2_with fail
  refine (code_Print 2 (some ⟨w4.heap.size, 0, none⟩) 4 4 kinkL _ hkL.lets (by omega) (by unfold Small; omega) kink_small).mono ?_
  rintro e w11 ⟨rfl, hb11⟩
  rw [kink_print]
  have B11 := Lib.hid (below_chain B10.out hb11 B10.out.size)
  clear hb11 B10 hk10 hc10 hkL c100 c101
  go_wp2_with fail
  refine (law_circle _).mono ?_
  rintro e w12 ⟨g1, rfl, hL12, hb12⟩
  have B12 := Lib.hid (below_chain B11.out hb12 B11.out.size)
  clear hb12 B11
  go_wp2_with fail
  refine (code_Faces 2 (some ⟨g1, 0, none⟩) 2 2 circL2 _ hL12.lets).mono ?_
  rintro e w13 ⟨A', n', c', vs, rfl, hb13, hfs, _⟩
  have B13 := Lib.hid (below_chain B12.out hb13 B12.out.size)
  have hF := hfs circ_ok
  rw [circ_ok]
  have hn4 : n' = 4 := by rw [← hF.len]; exact circ_faces_len
  subst hn4
  clear hb13 B12 hL12 hfs
  obtain ⟨gF, oF, rfl, _, _⟩ := hF.row.form (by omega)
  have hvl := hF.vlen
  obtain ⟨v1, hv1⟩ : ∃ v, vs[1]? = some v := ⟨_, List.getElem?_eq_getElem (by omega)⟩
  obtain ⟨v3, hv3⟩ : ∃ v, vs[3]? = some v := ⟨_, List.getElem?_eq_getElem (by omega)⟩
  obtain ⟨F3, hF3, hF3a⟩ := Option.map_eq_some_iff.1 circ_face3
  have o1 := hF.each 1 v1 _ hv1 circ_face1
  have o3 := hF.each 3 v3 _ hv3 hF3
  have k0 : w13.cell? ⟨gF, oF + 5, none⟩ = some (.bool false) := (hF.row.cell (j := 5) (by rw [show 5 = 1 * 5 + 0 from rfl, flat_at fvC 5 fvC_len vs 1 0 v1 hv1 (by omega)]; rfl)).trans (by rw [o1.above])
  have k1 : w13.cell? ⟨gF, oF + 5 + 1, none⟩ = some (.slice v1.dA v1.dn v1.dc) := hF.row.cell (j := 6) (by rw [show 6 = 1 * 5 + 1 from rfl, flat_at fvC 5 fvC_len vs 1 1 v1 hv1 (by omega)]; rfl)
  have k2 : w13.cell? ⟨gF, oF + 5 + 2, none⟩ = some (.slice v1.pA v1.pn v1.pc) := hF.row.cell (j := 7) (by rw [show 7 = 1 * 5 + 2 from rfl, flat_at fvC 5 fvC_len vs 1 2 v1 hv1 (by omega)]; rfl)
  have k3 : w13.cell? ⟨gF, oF + 5 + 3, none⟩ = some (.slice v1.fA v1.fn v1.fc) := hF.row.cell (j := 8) (by rw [show 8 = 1 * 5 + 3 from rfl, flat_at fvC 5 fvC_len vs 1 3 v1 hv1 (by omega)]; rfl)
  have k4 : w13.cell? ⟨gF, oF + 5 + 4, none⟩ = some (.bool true) := (hF.row.cell (j := 9) (by rw [show 9 = 1 * 5 + 4 from rfl, flat_at fvC 5 fvC_len vs 1 4 v1 hv1 (by omega)]; rfl)).trans (by rw [o1.outer])
  have k5 : w13.cell? ⟨gF, oF + 15, none⟩ = some (.bool true) := (hF.row.cell (j := 15) (by rw [show 15 = 3 * 5 + 0 from rfl, flat_at fvC 5 fvC_len vs 3 0 v3 hv3 (by omega)]; rfl)).trans (by rw [o3.above, hF3a])
  have hdn : v1.dn = 1 := o1.darts.len.symm
  have hfn : v1.fn = 1 := o1.fingers.len.symm
  have hpn : v1.pn = 3 := o1.places.len.symm
  obtain ⟨ab, dA, dn, dc, pA, pn, pc, fA, fn, fc, ou⟩ := v1
  simp only [] at hdn hfn hpn k1 k2 k3
  subst hdn; subst hfn; subst hpn
  have hD := o1.darts
  have hP := o1.places
  have hFi := o1.fingers
  simp only [] at hD hP hFi
  have lF := World.block_lt_of_cell? w13 _ k0
  obtain ⟨gP, oP, rfl, _, lP⟩ := hP.row.form (by omega)
  have p0 := (hP.cell (j := 1) (x := ⟨2, 0⟩) rfl).1
  have p1 := (hP.cell (j := 1) (x := ⟨2, 0⟩) rfl).2
  have heP := eqPl
  have hbP := build_place1 2
  clear hv1 hv3 hF3 hF3a o1 o3 hvl hP
  go_wp2_with fail
  refine (ref_equal dA (some ⟨w13.heap.size, 0, none⟩) 1 1 dc 1 [1] [1] _ (hD.ints.alloc _) (Ints.one (by unfold I64; omega))).mono ?_
  rintro e w14 ⟨rfl, hdr⟩
  rw [show (([1] : List Int) == [1]) = true from rfl]
  have hb14 : Below w13.heap.size w13 w14 := ((Below.refl _ _).alloc (Nat.le_refl _) _).trans (hdr.below _)
  have B14 := Lib.hid (below_chain B13.out hb14 B13.out.size)
  have hF14 := hFi.ints.below hb14
  have m2 := (hb14.cell (p := ⟨gF, oF + 5 + 2, none⟩) lF).trans k2
  have m3 := (hb14.cell (p := ⟨gF, oF + 5 + 3, none⟩) lF).trans k3
  have q0 := (hb14.cell (p := ⟨gP, oP + 1 * 2, none⟩) lP).trans p0
  have q1 := (hb14.cell (p := ⟨gP, oP + 1 * 2 + 1, none⟩) lP).trans p1
  have lF14 : gF < w14.heap.size := Nat.lt_of_lt_of_le lF hb14.size
  have lP14 : gP < w14.heap.size := Nat.lt_of_lt_of_le lP hb14.size
  clear hdr hb14 B13 hFi hD hF k0 k1 k2 k3 k4 k5 p0 p1 lF lP
  go_wp2_with fail
  refine (ref_equal fA (some ⟨w14.heap.size, 0, none⟩) 1 1 fc 1 [2] [2] _ (hF14.alloc _) (Ints.one (by unfold I64; omega))).mono ?_
  rintro e w15 ⟨rfl, hdr⟩
  rw [show (([2] : List Int) == [2]) = true from rfl]
  have hb15 : Below w14.heap.size w14 w15 := ((Below.refl _ _).alloc (Nat.le_refl _) _).trans (hdr.below _)
  have B15 := Lib.hid (below_chain B14.out hb15 B14.out.size)
  have r2 := (hb15.cell (p := ⟨gF, oF + 5 + 2, none⟩) lF14).trans m2
  have t0 : w15.cell? ⟨gP, oP + 2, none⟩ = some (.int .i64 2) := (hb15.cell (p := ⟨gP, oP + 1 * 2, none⟩) lP14).trans q0
  have t1 : w15.cell? ⟨gP, oP + 2 + 1, none⟩ = some (.int .i64 0) := (hb15.cell (p := ⟨gP, oP + 1 * 2 + 1, none⟩) lP14).trans q1
  clear hdr hb15 B14 hF14 m2 m3 q0 q1 lF14 lP14
  go_wp2_with fail
  refine (law_circle _).mono ?_
  rintro e w16 ⟨g2, rfl, hL16, hb16⟩
  have B16 := Lib.hid (below_chain B15.out hb16 B15.out.size)
  clear hb16 B15 r2 t0 t1
  go_wp2_with fail
  refine (code_Forget 2 1 (by unfold I64; omega) (some ⟨g2, 0, none⟩) 2 2 circL2 _ hL16.lets).mono ?_
  rintro e w17 ⟨A', n', c'', rfl, hL17, hb17⟩
  rw [circ_forK, circ_forE]
  rw [circ_forL] at hL17
  have B17 := Lib.hid (below_chain B16.out hb17 B16.out.size)
  clear hb17 B16 hL16
  go_wp2_with fail
  refine (code_Print 1 A' n' c'' [lpass 0 1, lpass 0 2] _ (hL17.lets.alloc _) (by have := hL17.len; simp at this; omega) (by unfold Small; omega) circ_small).mono ?_
  rintro e w18 ⟨rfl, hb18⟩
  rw [circ_print]
  have B18 := Lib.hid (below_chain (B17.out.alloc B17.out.size _) hb18 (by simp; have := B17.out.size; omega))
  clear hb18 B17 hL17
  go_wp2_with fail
  go_ret
  exact ⟨rfl, B18.out⟩
end
end Go.Proofs.YtkjcmppaapbabaaDoor
