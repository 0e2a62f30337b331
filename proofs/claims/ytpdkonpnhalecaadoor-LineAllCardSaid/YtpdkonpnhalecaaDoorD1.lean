/-
  Contract: line.Print at lists of numbers from 0 to 99. Conditions: the slice reads, and is not empty.
-/
import Derived.Test.YtpdkonpnhalecaaDoorB7
import Derived.Test.YtpdkonpnhalecaaDoorShc
namespace Go.Proofs.YtpdkonpnhalecaaDoor
open Go.RowKit

theorem strInfo : (Tryd.prog.info? 9).map (fun i => (i.zero, i.size, i.bytes)) = some (some (.string ⟨#[]⟩), 1, 16) := by kernel_rfl
def bytesOf (x : Int) : ByteArray := ⟨(Lib.decDigits x.toNat).toArray⟩
def strsOf (L : List Int) : List ByteArray := L.map bytesOf
theorem pushStr {w : World} {ops : Array Oper} {rest : List Oper} {o : Oper} {a : Act} {Q : Exit → Act → World → Prop} (hgd : o.guard = none) (s x : Operand)
    (ho : o.op = .call { callee := .builtin .append, args := #[s, x], argTypes := #[44, 44] })
    {base : Nat} {A : Option Addr} {n c : Nat} {S : List ByteArray} (hst : Row w base 1 A n c (S.map Value.string)) (g : ByteArray) (hs : a.eval s = .slice A n c)
    (hx : a.eval x = .slice (some ⟨w.heap.size, 0, none⟩) 1 1) (N : Nat) (hN : n + 1 = N) (hn : N ≤ 1000000) (hbase : base ≤ w.heap.size)
    (h : ∀ A' c' w', Row w' base 1 A' N c' ((S ++ [g]).map Value.string) → Below base w w' → wpList Tryd.prog ops Q rest (a.put o.dst (.slice A' N c')) w') :
    wpList Tryd.prog ops Q (o :: rest) a (w.alloc (.cells #[.string g] 9)) := by
  obtain ⟨i0, hi, hz0, hz1, hz2⟩ := info_parts strInfo
  refine appR hgd s x 44 ho 9 i0 _ 1 16 Tryd.underlying44 hi hz0 hz1 hz2 rfl (by decide) (hst.alloc _) (Src.new (m := 1) (cs := [.string g]) rfl)
    (by intro u hu; simp at hu; subst hu; rfl) hs hx N hN (by unfold maxLen; omega) (by omega) (by simp; omega) ?_
  intro A' c' w' h1 h2 _ _
  refine h A' c' w' (by rw [List.map_append]; exact h1) ?_
  exact ((Below.refl _ _).alloc hbase _).trans ((hst.alloc _).belowOf h2 (by simp; omega))
set_option maxHeartbeats 400000 in
theorem line_Print_small (A : Option Addr) (n c : Nat) (L : List Int) (w : World) (hA : Ints w A n L) (hn : 0 < n) (hle : n ≤ 1000) (hx : ∀ x ∈ L, 0 ≤ x ∧ x < 100) (hlen : (Lib.join ((strsOf L).map (·.data.toList)) [32]).length ≤ 140737488355328) :
    Calls Tryd.prog 10 #[.slice A n c] w fun e w' => e = .returned (.string ⟨(Lib.join ((strsOf L).map (·.data.toList)) [32]).toArray⟩) ∧ Below w.heap.size w w' := by
  have HL := Lib.hid hA.len
  have HX := Lib.hid hx
  have HLEN := Lib.hid hlen
  have hn0 : ((n : Int) == 0) = false := by simpa using (by omega : (n : Int) ≠ 0)
  clear hx hlen
  go_enter Tryd.func10, Tryd.ntmps10
  go_wp2_with fail
  go_loopw [3, 11] (fun v3 vi wr => ∃ (k : Nat) (A' : Option Addr) (c' : Nat) (S : List ByteArray), k ≤ n ∧ v3 = .slice A' k c' ∧ vi = .int .i64 k ∧ Row wr w.heap.size 1 A' k c' (S.map Value.string) ∧ Below w.heap.size w wr ∧ Hid (S = strsOf (L.take k))) (fun _ vi _ => n - (intOf vi).toNat)
  case atStart => exact ⟨0, none, 0, [], Nat.zero_le _, rfl, rfl, Row.none_ _ _ _, Below.refl _ _, Lib.hid rfl⟩
  case round =>
    obtain ⟨k, A', c', S, hk, rfl, rfl, hrow, hbr, HS⟩ := hrel
    by_cases hlt : k < n
    · obtain ⟨ad, x, rfl, hx, hx1, hx2, hc⟩ := (hA.below hbr).at_ hlt
      obtain ⟨hx3, hx4⟩ := HX.out x (List.mem_of_getElem? hx.out)
      obtain ⟨m, rfl⟩ : ∃ m : Nat, x = m := ⟨x.toNat, by omega⟩
      have HS' : Hid (S ++ [⟨(Lib.decDigits m).toArray⟩] = strsOf (L.take (k + 1))) := Lib.hid (by
        rw [HS.out, strsOf, strsOf, List.take_add_one, hx.out]
        simp [bytesOf])
      clear hx HS
      obtain ⟨g, hg⟩ : ∃ g : ByteArray, g = ⟨(Lib.decDigits m).toArray⟩ := ⟨_, rfl⟩
      rw [← hg] at HS'
      have HG := Lib.hid hg
      clear hg
      have hb1 := hbr.size
      go_wp2_with fail
      refine (Tryd.strconv_Itoa_small m (by omega) _).mono ?_
      rintro e w' ⟨rfl, rfl⟩
      rw [← HG.out]
      go_wp2_with (at_builtin; refine pushStr rfl _ _ rfl hrow g rfl rfl (k + 1) rfl (by omega) hb1 ?_)
      intro A2 c2 w2 hrow2 hb2
      have hrow3 : Row w2 w.heap.size 1 A2 (k + 1) c2 ((S ++ [g]).map Value.string) := by simpa using hrow2
      have hb3 := hbr.trans hb2
      clear hrow2 hb2 hrow hbr HG
      go_wp2_with fail
      go_roundw
      case rel => exact ⟨k + 1, A2, c2, S ++ [g], by omega, rfl, by go_num, hrow3, hb3, HS'⟩
      case measure => simp [intOf]; omega
    · have hkn : k = n := by omega
      subst hkn
      obtain ⟨g, off, rfl, hg1, hg2⟩ := hrow.form hn
      have hS : S = strsOf L := by rw [HS.out, List.take_of_length_le (by rw [HL.out]; exact Nat.le_refl _)]
      have hSl : S.length = k := by rw [hS, strsOf, List.length_map, HL.out]
      have J := Tryd.strings_Join g off c' S ⟨#[32]⟩ wr (fun j x hj => hrow.cell (u := .string x) (by rw [List.getElem?_map, hj]; rfl)) hg2 (by omega) (by rw [hSl]; exact hrow.cap) (by rw [hS]; exact HLEN.out)
      rw [hSl, hS] at J
      clear hS hSl HS hrow
      go_wp2_with fail
      refine J.mono ?_
      rintro e w2 ⟨rfl, hb2⟩
      have hb3 := below_chain hbr hb2 hbr.size
      obtain ⟨r, hr⟩ : ∃ r, r = (Lib.join ((strsOf L).map (·.data.toList)) [32]) := ⟨_, rfl⟩
      rw [← hr]
      have HR := Lib.hid hr
      clear hr HLEN hb2 J hbr
      go_wp2_with fail
      go_ret
      rw [← HR.out]
      exact ⟨rfl, hb3⟩
end Go.Proofs.YtpdkonpnhalecaaDoor
