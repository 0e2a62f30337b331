/-
  Contracts: numerals (the library's, the document's, the program's reader). Conditions: the library's tables stand as they were laid; the numbers are ints.
  Contract: the program's reader of a numeral. Conditions: the library's tables stand as they were laid; the text is not long.
  Contract: the document's Number. Condition: an int.
-/
import Derived.Test.YtpdkonpnhalecaaDoorShc
import Derived.Test.YtpdkonpnhalecaaDoorJD
import Derived.Test.YtpdkonpnhalecaaDoorBase
import Derived.Laws.IdiomStrings
import Derived.Lib.AppendIntMem
import Derived.Lib.AtoiErrMem
import Derived.StillTailTactics
import Derived.Laws.Concat
namespace Go.Proofs.YtpdkonpnhalecaaDoor
section
open Go.RowKit
def bA (l : List UInt8) : ByteArray := ⟨l.toArray⟩
theorem bA_list (l : List UInt8) : (bA l).data.toList = l := by simp [bA]
theorem bA_size (l : List UInt8) : (bA l).size = l.length := by simp [bA, ByteArray.size]
theorem bA_append (a b : List UInt8) : bA a ++ bA b = bA (a ++ b) := by
  apply ByteArray.ext
  simp [bA]
theorem bA_of (s : ByteArray) : bA s.data.toList = s := by cases s; simp [bA]
theorem bA_inj {a b : List UInt8} (h : bA a = bA b) : a = b := by
  have := congrArg (fun s : ByteArray => s.data.toList) h
  simpa [bA] using this
/-- What the library's tables hold. -/
structure Tabs (w : World) : Prop where
  pow : Lib.TabIs Tryd.prog w "internal/strconv.uint64pow10" .u64 Lib.pow10Tab
  most : ∃ m, w.cell? ⟨3, 0, none⟩ = some (.int .i64 m)
  syn : ∃ tp p, w.var? Tryd.prog "strconv.ErrSyntax" = some #[.iface tp p]
  ran : ∃ tp p, w.var? Tryd.prog "strconv.ErrRange" = some #[.iface tp p]
theorem var_stays {P : Program} {w w' : World} {nm : String} {cs : Array Value} (h : w.var? P nm = some cs) (hb : Below w.heap.size w w') : w'.var? P nm = some cs := by
  unfold World.var? at h ⊢
  obtain ⟨g, hg, h2⟩ := Option.bind_eq_some_iff.1 h
  rw [hg]
  have hlt : g < w.heap.size := by
    rcases Nat.lt_or_ge g w.heap.size with h3 | h3
    · exact h3
    · rw [Array.getElem?_eq_none h3] at h2; cases h2
  show (match w'.heap[g]? with | some (.cells cs _ _) => some cs | _ => none) = some cs
  rw [hb.block g hlt]
  exact h2
theorem Tabs.below {w w' : World} (h : Tabs w) (hb : Below w.heap.size w w') : Tabs w' := by
  obtain ⟨h1, ⟨m, h2⟩, ⟨t3, p3, h3⟩, ⟨t4, p4, h4⟩⟩ := h
  exact ⟨var_stays h1 hb, ⟨m, (hb.cell (World.block_lt_of_cell? w _ h2)).trans h2⟩, ⟨t3, p3, var_stays h3 hb⟩, ⟨t4, p4, var_stays h4 hb⟩⟩
theorem itoa_any (x : Int) (hx : I64 x) (w : World) (ht : Tabs w) : Calls Tryd.prog 24 #[.int .i64 x] w fun e w' => e = .returned (.string (bA (Lib.itoa x))) ∧ Below w.heap.size w w' := by
  refine (Tryd.strconv_Itoa x hx.1 hx.2 w ht.pow).mono ?_
  rintro e w' ⟨rfl, k, os, rfl⟩
  exact ⟨rfl, Lib.below_grow _ _ (Nat.le_refl _) _ _⟩
theorem atoi_any (s : List UInt8) (hs : s.length ≤ 100000) (w : World) (ht : Tabs w) :
    Calls Tryd.prog 28 #[.string (bA s)] w fun e w' => ∃ x, e = .returned (.tuple #[.int .i64 (numF s).1, x]) ∧ (x = .nilIface ∧ (numF s).2 = (Lib.itoa (numF s).1 == s) ∨ (numF s).2 = false ∧ ∃ t p, x = .iface t p) ∧ Below w.heap.size w w' := by
  have hz : (bA s).size ≤ 100000 := by rw [bA_size]; exact hs
  cases h : Lib.atoiAll s with
  | ok v =>
    have h' : Lib.atoiAll (bA s).data.toList = .ok v := by rw [bA_list]; exact h
    refine (Tryd.strconv_Atoi_ok (bA s) (by omega) v h' w).mono ?_
    rintro e w' ⟨rfl, hw⟩
    have hn : numF s = (v, Lib.itoa v == s) := by unfold numF; rw [h]
    rw [hn]
    refine ⟨_, rfl, .inl ⟨rfl, rfl⟩, ?_⟩
    rcases hw with rfl | ⟨t, rfl⟩
    · exact Below.refl _ _
    · exact Lib.bytesWorld_below _ _ _
  | «syntax» =>
    have h' : Lib.atoiAll (bA s).data.toList = .«syntax» := by rw [bA_list]; exact h
    obtain ⟨tp, p, hv⟩ := ht.syn
    refine (Tryd.strconv_Atoi_syntax_var (bA s) (by omega) h' tp p w hv).mono ?_
    rintro e w' ⟨N, rfl, _, _, hb⟩
    have hn : numF s = (0, false) := by unfold numF; rw [h]
    rw [hn]
    exact ⟨_, rfl, .inr ⟨rfl, _, _, rfl⟩, hb⟩
  | range =>
    have h' : Lib.atoiAll (bA s).data.toList = .range := by rw [bA_list]; exact h
    obtain ⟨tp, p, hv⟩ := ht.ran
    refine (Tryd.strconv_Atoi_range_var (bA s) (by omega) h' tp p w hv).mono ?_
    rintro e w' ⟨N, rfl, _, _, hb⟩
    have hn : numF s = (Lib.atoiSat s, false) := by unfold numF; rw [h]
    rw [bA_list, hn]
    exact ⟨_, rfl, .inr ⟨rfl, _, _, rfl⟩, hb⟩
end

section
open Go.RowKit
theorem bA_toList (l : List UInt8) : (bA l).toList = l := by
  rw [Lib.toList_data]
  exact bA_list l
theorem same_text (a b : List UInt8) : ((bA a).toList == (bA b).toList) = (a == b) := by rw [bA_toList, bA_toList]
end

section
open Go.RowKit
theorem strAddL (a b : List UInt8) (ha : a.length ≤ 100000) (hb : b.length ≤ 100000) : ∀ w, (Op.stringOp .add (bA a) (bA b)).run Tryd.prog w = .ok (.string (bA (a ++ b))) w := fun w => by
  rw [run_string_add_sum w (bA a) (bA b) (by rw [bA_size, bA_size]; omega), bA_append]
theorem digits_le {u : Nat} (hu : u < 9223372036854775808) : (Lib.decDigits u).length ≤ 21 := by
  have := Lib.itoa_length_le (u : Int) (by omega) (by omega)
  unfold Lib.itoa at this
  rw [if_neg (by omega)] at this
  simpa using this
theorem digits_one {u : Nat} (h : u < 10) : Lib.decDigits u = [UInt8.ofNat (48 + u)] := by rw [Lib.decDigits, dif_pos h]
theorem digits_more {u : Nat} (h : ¬u < 10) : Lib.decDigits u = Lib.decDigits (u / 10) ++ Lib.decDigits (u % 10) := by
  conv => lhs; rw [Lib.decDigits]
  rw [dif_neg h, digits_one (u := u % 10) (by omega)]
theorem conv_one (u : Nat) (h : u < 10) (w : World) : (convert 59 9 (.slice (some ⟨w.heap.size, 0, none⟩) 1 1)).run Tryd.prog (w.alloc (.cells #[.int .u8 (48 + (u : Int))] 5)) = .ok (.string (bA (Lib.decDigits u))) (w.alloc (.cells #[.int .u8 (48 + (u : Int))] 5)) := by
  rw [digits_one h]
  exact run_convert_bytes_back _ _ _ _ ⟨w.heap.size, 0, none⟩ 1 [UInt8.ofNat (48 + u)] Tryd.underlying59 Tryd.underlying5 Tryd.underlying9 (fun j hj => by
    have : j = 0 := by simpa using hj
    subst this
    rw [Addr.add_lit, World.cell?_alloc_at _ _ _ _ rfl]
    simp
    omega)
set_option maxHeartbeats 1600000 in
theorem ref_num (u : Nat) : u < 9223372036854775808 → ∀ w : World, Calls Tryd.prog 26 #[.int .i64 (u : Int)] w fun e w' => e = .returned (.string (bA (Lib.decDigits u))) ∧ Below w.heap.size w w' := by
  induction u using Nat.strongRecOn with
  | _ u ih =>
    intro hu w
    have i0 : decide ((u : Int) < 0) = false := by simp
    by_cases h : u < 10
    · have hc := conv_one u h
      have i1 : (u : Int) < 10 := by omega
      have i2 : IntKind.i64.wrap (48 + (u : Int)) = 48 + (u : Int) := IntWalk.i64_in _ (by omega)
      have i3 : IntKind.u8.wrap (48 + (u : Int)) = 48 + (u : Int) := by unfold IntKind.wrap; simp [IntKind.signed, IntKind.bits]; omega
      clear ih
      go_enter Tryd.func26, Tryd.ntmps26
      go_wp2_with fail
      go_ret
      exact ⟨rfl, (Below.refl _ _).alloc (Nat.le_refl _) _⟩
    · obtain ⟨a, ha⟩ : ∃ a, a = u / 10 := ⟨_, rfl⟩
      obtain ⟨b, hb⟩ : ∃ b, b = u % 10 := ⟨_, rfl⟩
      have q1 : (u : Int) / 10 = (a : Int) := by omega
      have q2 : (u : Int) % 10 = (b : Int) := by omega
      have i1 : decide ((u : Int) < 10) = false := by simp; omega
      have i4 : (0 : Int) ≤ (u : Int) := by omega
      have i5 : IntKind.i64.wrap (a : Int) = (a : Int) := IntWalk.i64_in _ (by omega)
      have i6 : IntKind.i64.wrap (b : Int) = (b : Int) := IntWalk.i64_in _ (by omega)
      have hA := Lib.hid (ih a (by omega) (by omega))
      have hB := Lib.hid (ih b (by omega) (by omega))
      have hd := digits_more h
      rw [← ha, ← hb] at hd
      have la := digits_le (u := a) (by omega)
      have lb := digits_le (u := b) (by omega)
      have hs := strAddL (Lib.decDigits a) (Lib.decDigits b) (by omega) (by omega)
      have HD := Lib.hid hd
      clear ih hd ha hb h
      go_enter Tryd.func26, Tryd.ntmps26
      go_wp2_with fail
      refine (hA.out _).mono ?_
      rintro e w1 ⟨rfl, hb1⟩
      go_wp2_with fail
      refine (hB.out _).mono ?_
      rintro e w2 ⟨rfl, hb2⟩
      have hb3 := hb1.trans (hb2.mono hb1.size)
      go_wp2_with fail
      go_ret
      exact ⟨by rw [HD.out]; rfl, hb3⟩
set_option maxHeartbeats 1600000 in
theorem ref_numberA (x : Int) (hx : I64 x) (w : World) : Calls Tryd.prog 26 #[.int .i64 x] w fun e w' => e = .returned (.string (bA (Lib.itoa x))) ∧ Below w.heap.size w w' := by
  by_cases h : x < 0
  · have i0 : decide (x < 0) = true := by simpa using h
    have hi : Lib.itoa x = 45 :: Lib.decDigits x.natAbs := by unfold Lib.itoa; rw [if_pos h]
    by_cases hm : x = -9223372036854775808
    · subst hm
      have hi2 : bA (Lib.itoa (-9223372036854775808)) = ⟨#[45, 57, 50, 50, 51, 51, 55, 50, 48, 51, 54, 56, 53, 52, 55, 55, 53, 56, 48, 56]⟩ := by kernel_rfl
      have i3 : wrap64 9223372036854775808 = -9223372036854775808 := by unfold wrap64; omega
      have HI := Lib.hid hi2
      clear hi hi2 h
      go_enter Tryd.func26, Tryd.ntmps26
      go_wp2_with fail
      go_ret
      exact ⟨by rw [HI.out]; rfl, Below.refl _ _⟩
    · obtain ⟨u, hu⟩ : ∃ u : Nat, -x = (u : Int) := ⟨x.natAbs, by omega⟩
      have hu2 : x.natAbs = u := by omega
      rw [hu2] at hi
      have hlt : u < 9223372036854775808 := by have := hx.1; omega
      have hU := Lib.hid (ref_num u hlt)
      have l1 := digits_le hlt
      have hs := strAddL [45] (Lib.decDigits u) (by simp) (by omega)
      have i1 : IntKind.i64.wrap (u : Int) = (u : Int) := IntWalk.i64_in _ (by omega)
      have i2 : (x == (u : Int)) = false := by simp; omega
      have HI := Lib.hid hi
      have hb : bA [45] = ⟨#[45]⟩ := rfl
      rw [hb] at hs
      clear hi hm h hu2 hb
      go_enter Tryd.func26, Tryd.ntmps26
      go_wp2_with fail
      refine (hU.out _).mono ?_
      rintro e w1 ⟨rfl, hb1⟩
      go_wp2_with fail
      go_ret
      exact ⟨by rw [HI.out]; rfl, hb1⟩
  · obtain ⟨u, rfl⟩ : ∃ u : Nat, x = (u : Int) := ⟨x.toNat, by omega⟩
    have := ref_num u (by have := hx.2; omega) w
    have hi : Lib.itoa (u : Int) = Lib.decDigits u := by unfold Lib.itoa; rw [if_neg h]; simp
    rw [hi]
    exact this
end
end Go.Proofs.YtpdkonpnhalecaaDoor
