/-
  The words in which this seat's contracts speak of memory: a slice of ints that reads as a list, worlds that differ by draws alone; and small laws on them. No condition.
  Contracts of small functions that only read: catscradleref01.Word, Valid, Equal. Conditions: the slices read as lists of ints.
  Slices of letters in memory: the word 'Lets'. No condition.
  Contracts: the counts of passes and visits, of the program and of the document. Conditions: the code's letters read.
  Contracts of small functions of the document: In, times, Down, Below, Crossings, at, left, along, Other. Conditions: the code's letters read; indexes lie within.
  Contracts of the document's Other and left. Conditions: the code's letters read; indexes lie within.
-/
import Derived.Test.YtkjcmppaapbabaaDoorProg
import Derived.WalkKit
import Derived.Deep.QuietTactic
import Derived.BigQuiet
import Derived.Lib.Hide
import Derived.Laws.OwnMore
import Derived.Maps.AppendAt
import Derived.Deep.AppendLies
import Derived.Deep.LoopGhost
import Derived.Deep.DeepFit
import Derived.Deep.DeepMust
import Derived.Outline
import Derived.Test.YtkjcmppaapbabaaDoorJA
namespace Go.Proofs.YtkjcmppaapbabaaDoor
section
open Go.RowKit

/-- w' is w behind some draws. -/
def Drawn (w w' : World) : Prop := ∃ m, w' = w.drewN m
theorem Drawn.refl (w : World) : Drawn w w := ⟨0, rfl⟩
theorem Drawn.drewN {w w' : World} (h : Drawn w w') (k : Nat) : Drawn w (w'.drewN k) := by
  obtain ⟨m, rfl⟩ := h
  exact ⟨m + k, by rw [World.drewN_drewN]⟩
theorem Drawn.trans {a b c : World} (h : Drawn a b) (k : Drawn b c) : Drawn a c := by
  obtain ⟨m, rfl⟩ := k
  exact h.drewN m
theorem drawn1 (w : World) (m : Nat) : Drawn w (w.drewN m) := ⟨m, rfl⟩
theorem drawn2 (w : World) (m n : Nat) : Drawn w ((w.drewN m).drewN n) := (drawn1 w m).drewN n
theorem Drawn.below {w w' : World} (h : Drawn w w') (B : Nat) : Below B w w' := by
  obtain ⟨m, rfl⟩ := h
  exact ⟨rfl, rfl, rfl, Nat.le_refl _, fun _ _ => rfl⟩
theorem Drawn.size {w w' : World} (h : Drawn w w') : w'.heap.size = w.heap.size := by
  obtain ⟨m, rfl⟩ := h
  rfl
theorem below_drewN {B : Nat} {a w : World} (h : Below B a w) (n : Nat) : Below B a (w.drewN n) := ⟨h.os, h.tape, h.output, h.size, h.block⟩
theorem below_chain {B C : Nat} {a b c : World} (h : Below B a b) (k : Below C b c) (hB : B ≤ C) : Below B a c := h.trans (k.mono hB)

/-- A contract's quiet form. -/
theorem quiet_calls {P : Program} {f : FuncId} {args : Array Value} {w : World} {n : Nat} {v : Value}
    (h : Calls P f args (w.drewN n) fun e w' => e = .returned v ∧ Drawn (w.drewN n) w') : Calls P f args (w.drewN n) fun e w'' => e = .returned v ∧ ∃ m, w'' = w.drewN m :=
  h.mono fun _ _ ⟨he, m, hm⟩ => ⟨he, n + m, by rw [hm, World.drewN_drewN]⟩

theorem block_of_add (a : Addr) (n : Nat) : (a.add n).block = a.block := by unfold Addr.add; split <;> rfl
theorem add_of_add (a : Addr) (i j : Nat) : (a.add i).add j = a.add (i + j) := by
  unfold Addr.add
  by_cases hi : i = 0 <;> by_cases hj : j = 0 <;> simp [hi, hj, Nat.add_assoc]

/-- x fits an int. -/
def I64 (x : Int) : Prop := -9223372036854775808 ≤ x ∧ x ≤ 9223372036854775807

/-- The slice '.slice A n c' reads as the list L of ints. -/
def Ints (w : World) (A : Option Addr) (n : Nat) (L : List Int) : Prop :=
  L.length = n ∧ n ≤ 17592186044416 ∧ (∀ x ∈ L, I64 x) ∧
  (0 < n → ∃ ad, A = some ad ∧ ad.block < w.heap.size ∧ ∀ j x, L[j]? = some x → w.cell? (ad.add j) = some (.int .i64 x))

theorem Ints.len {w : World} {A : Option Addr} {n : Nat} {L : List Int} (h : Ints w A n L) : L.length = n := h.1
theorem Ints.le {w : World} {A : Option Addr} {n : Nat} {L : List Int} (h : Ints w A n L) : n ≤ 17592186044416 := h.2.1
theorem Ints.fits {w : World} {A : Option Addr} {n : Nat} {L : List Int} (h : Ints w A n L) : ∀ x ∈ L, I64 x := h.2.2.1
theorem Ints.nil (w : World) (A : Option Addr) : Ints w A 0 [] := ⟨rfl, by omega, by simp, fun h => absurd h (by omega)⟩

/-- Inside a round: the address, the element, its cell. -/
theorem Ints.at_ {w : World} {A : Option Addr} {n k : Nat} {L : List Int} (h : Ints w A n L) (hk : k < n) :
    ∃ ad x, A = some ad ∧ Hid (L[k]? = some x) ∧ -9223372036854775808 ≤ x ∧ x ≤ 9223372036854775807 ∧ w.cell? (ad.add k) = some (.int .i64 x) := by
  obtain ⟨hl, _, hf, hc⟩ := h
  obtain ⟨ad, e, _, hcell⟩ := hc (by omega)
  have hkl : k < L.length := by omega
  have hx : L[k]? = some L[k] := List.getElem?_eq_getElem hkl
  have := hf L[k] (List.getElem_mem hkl)
  exact ⟨ad, L[k], e, hx, this.1, this.2, hcell k _ hx⟩
/-- Another element of a slice whose address is known. -/
theorem Ints.also {w : World} {ad : Addr} {n k : Nat} {L : List Int} (h : Ints w (some ad) n L) (hk : k < n) :
    ∃ x, Hid (L[k]? = some x) ∧ -9223372036854775808 ≤ x ∧ x ≤ 9223372036854775807 ∧ w.cell? (ad.add k) = some (.int .i64 x) := by
  obtain ⟨ad', x, e, h1, h2, h3, h4⟩ := h.at_ hk
  obtain rfl := Option.some.inj e
  exact ⟨x, h1, h2, h3, h4⟩
theorem Ints.keep {w w' : World} {A : Option Addr} {n : Nat} {L : List Int} (h : Ints w A n L) (hs : w.heap.size ≤ w'.heap.size)
    (hk : ∀ p : Addr, p.block < w.heap.size → w'.cell? p = w.cell? p) : Ints w' A n L :=
  ⟨h.1, h.2.1, h.2.2.1, fun hn => by
    obtain ⟨ad, e, hb, hc⟩ := h.2.2.2 hn
    exact ⟨ad, e, by omega, fun j x hx => (hk _ (by rw [block_of_add]; exact hb)).trans (hc j x hx)⟩⟩
theorem Ints.below {w w' : World} {A : Option Addr} {n : Nat} {L : List Int} (h : Ints w A n L) (hb : Below w.heap.size w w') : Ints w' A n L :=
  h.keep hb.size fun _ hp => hb.cell hp
theorem Ints.drewN {w : World} {A : Option Addr} {n : Nat} {L : List Int} (h : Ints w A n L) (k : Nat) : Ints (w.drewN k) A n L := h
theorem Ints.drawn {w w' : World} {A : Option Addr} {n : Nat} {L : List Int} (h : Ints w A n L) (hd : Drawn w w') : Ints w' A n L := h.below (hd.below _)
theorem Ints.alloc {w : World} {A : Option Addr} {n : Nat} {L : List Int} (h : Ints w A n L) (o : Obj) : Ints (w.alloc o) A n L :=
  h.below ((Below.refl _ _).alloc (Nat.le_refl _) o)

/-- The lists behind a Bool of all elements. -/
theorem all_take_succ {α : Type} (p : α → Bool) (L : List α) (k : Nat) (x : α) (hx : L[k]? = some x) : (L.take (k + 1)).all p = ((L.take k).all p && p x) := by
  rw [List.take_add_one, hx]; simp
theorem all_of_take {α : Type} (p : α → Bool) (L : List α) (k : Nat) (h : L.length ≤ k) : (L.take k).all p = L.all p := by rw [List.take_of_length_le h]
theorem all_false_of {α : Type} (p : α → Bool) (L : List α) (k : Nat) (x : α) (hx : L[k]? = some x) (h : p x = false) : L.all p = false := by
  rw [List.all_eq_false]
  exact ⟨x, List.mem_of_getElem? hx, by simp [h]⟩
theorem ret_bool {a b : Bool} (h : a = b) : Ending.returned (.bool a) = .returned (.bool b) := by rw [h]
theorem ret_int {k : IntKind} {a b : Int} (h : a = b) : Ending.returned (.int k a) = .returned (.int k b) := by rw [h]
end

section
open Go.RowKit

def inB (k : Int) (x : Int) : Bool := decide (0 ≤ x) && decide (x ≤ k)
theorem inB_no_lo {k x : Int} (h : x < 0) : inB k x = false := by unfold inB; simp; omega
theorem inB_no_hi {k x : Int} (h : k < x) : inB k x = false := by unfold inB; simp; omega
theorem inB_yes {k x : Int} (h : 0 ≤ x) (h' : x ≤ k) : inB k x = true := by unfold inB; simp; omega
/-- ref.Word. -/
def wordB (L : List Int) : Bool := decide (L.length % 2 = 0) && decide (L.length ≤ 400) && L.all (inB 40)

set_option maxHeartbeats 400000 in
theorem ref_word (A : Option Addr) (n c : Nat) (L : List Int) (w : World) (hA : Ints w A n L) :
    Calls Tryd.prog 103 #[.slice A n c] w fun e w' => e = .returned (.bool (wordB L)) ∧ w' = w := by
  have hle := hA.le
  have HL := Lib.hid hA.len
  by_cases h1 : n % 2 = 0
  · by_cases h2 : n ≤ 400
    · have h1' : ((n : Int) % 2 != 0) = false := by simp; omega
      go_enter Tryd.func103, Tryd.ntmps103
      go_wp2
      go_loop [3] (fun i => ∃ k : Nat, k ≤ n ∧ i = .int .i64 k ∧ Hid ((L.take k).all (inB 40) = true)) (fun i => n - (intOf i).toNat)
      case atStart => exact ⟨0, Nat.zero_le _, rfl, by simp [Hid]⟩
      case round =>
        obtain ⟨k, hk, rfl, hall⟩ := hrel
        by_cases hlt : k < n
        · obtain ⟨ad, x, rfl, hx, hx1, hx2, hc⟩ := hA.at_ hlt
          by_cases hb : 0 ≤ x ∧ x ≤ 40
          · obtain ⟨hb1, hb2⟩ := hb
            go_wp2
            go_round
            case rel => exact ⟨k + 1, by omega, by go_num, (all_take_succ _ _ _ _ hx).trans (by rw [hall.out, inB_yes hb1 hb2]; rfl)⟩
            case measure => simp [intOf]; omega
          · have hf := Lib.hid (show wordB L = false by
              unfold wordB
              rw [all_false_of (inB 40) L k x hx (by unfold inB; simp; omega), Bool.and_false])
            by_cases hb1 : 0 ≤ x
            · have hb2 : 40 < x := by omega
              go_wp2
              go_ret
              exact ⟨ret_bool hf.out.symm, rfl⟩
            · have hb2 : x < 0 := by omega
              go_wp2
              go_ret
              exact ⟨ret_bool hf.out.symm, rfl⟩
        · go_wp2
          go_ret
          refine ⟨ret_bool ?_, rfl⟩
          have h := hall.out
          rw [all_of_take _ _ _ (by rw [HL.out]; omega)] at h
          unfold wordB
          rw [h, HL.out]; simp; omega
    · have h1' : ((n : Int) % 2 != 0) = false := by simp; omega
      go_enter Tryd.func103, Tryd.ntmps103
      go_wp2
      go_ret
      exact ⟨ret_bool (by unfold wordB; rw [HL.out]; simp; omega), rfl⟩
  · have h1' : ((n : Int) % 2 != 0) = true := by simp; omega
    go_enter Tryd.func103, Tryd.ntmps103
    go_wp2
    go_ret
    exact ⟨ret_bool (by unfold wordB; rw [HL.out]; simp; omega), rfl⟩

/-- ref.Valid. -/
def validB (k : Int) (L : List Int) : Bool := decide (0 ≤ k) && decide (k ≤ 40) && wordB L && L.all (fun x => decide (x ≤ k))

set_option maxHeartbeats 400000 in
theorem ref_valid (K : Int) (A : Option Addr) (n c : Nat) (L : List Int) (w : World) (hA : Ints w A n L) :
    Calls Tryd.prog 55 #[.int .i64 K, .slice A n c] w fun e w' => e = .returned (.bool (validB K L)) ∧ w' = w := by
  have hle := hA.le
  have HL := Lib.hid hA.len
  by_cases h1 : 0 ≤ K
  · by_cases h2 : K ≤ 40
    · rcases Bool.eq_false_or_eq_true (wordB L) with hw | hw
      · go_enter Tryd.func55, Tryd.ntmps55
        go_wp2_with (go_at_call 103; refine (ref_word _ _ _ _ _ hA).mono ?_; rintro e w' ⟨rfl, rfl⟩)
        have HW := Lib.hid hw
        clear hw
        go_loop [5] (fun i => ∃ k : Nat, k ≤ n ∧ i = .int .i64 k ∧ Hid ((L.take k).all (fun x => decide (x ≤ K)) = true)) (fun i => n - (intOf i).toNat)
        case atStart => exact ⟨0, Nat.zero_le _, rfl, by simp [Hid]⟩
        case round =>
          obtain ⟨k, hk, rfl, hall⟩ := hrel
          by_cases hlt : k < n
          · obtain ⟨ad, x, rfl, hx, hx1, hx2, hc⟩ := hA.at_ hlt
            by_cases hb : x ≤ K
            · go_wp2
              go_round
              case rel => exact ⟨k + 1, by omega, by go_num, (all_take_succ _ _ _ _ hx).trans (by rw [hall.out]; simpa using hb)⟩
              case measure => simp [intOf]; omega
            · have hf := Lib.hid (show validB K L = false by
                unfold validB
                rw [all_false_of (fun x => decide (x ≤ K)) L k x hx (by simpa using hb), Bool.and_false])
              go_wp2
              go_ret
              exact ⟨ret_bool hf.out.symm, rfl⟩
          · go_wp2
            go_ret
            refine ⟨ret_bool ?_, rfl⟩
            have h := hall.out
            rw [all_of_take _ _ _ (by rw [HL.out]; omega)] at h
            unfold validB
            rw [h, HW.out]; simp; omega
      · have hf := Lib.hid (show validB K L = false by unfold validB; rw [hw]; simp)
        go_enter Tryd.func55, Tryd.ntmps55
        go_wp2_with (go_at_call 103; refine (ref_word _ _ _ _ _ hA).mono ?_; rintro e w' ⟨rfl, rfl⟩)
        go_ret
        exact ⟨ret_bool hf.out.symm, rfl⟩
    · have hf := Lib.hid (show validB K L = false by unfold validB; simp [h2])
      go_enter Tryd.func55, Tryd.ntmps55
      go_wp2_with fail
      go_ret
      exact ⟨ret_bool hf.out.symm, rfl⟩
  · have hf := Lib.hid (show validB K L = false by unfold validB; simp [h1])
    go_enter Tryd.func55, Tryd.ntmps55
    go_wp2_with fail
    go_ret
    exact ⟨ret_bool hf.out.symm, rfl⟩

set_option maxHeartbeats 400000 in
theorem ref_equal (A B : Option Addr) (n m c d : Nat) (L M : List Int) (w : World) (hA : Ints w A n L) (hB : Ints w B m M) :
    Calls Tryd.prog 59 #[.slice A n c, .slice B m d] w fun e w' => e = .returned (.bool (L == M)) ∧ Drawn w w' := by
  have hle := hA.le
  have hle' := hB.le
  have HL := Lib.hid hA.len
  have HM := Lib.hid hB.len
  by_cases hnm : n = m
  · subst hnm
    go_enter Tryd.func59, Tryd.ntmps59
    go_wp2
    go_loopw [5] (fun i wr => ∃ k : Nat, k ≤ n ∧ i = .int .i64 k ∧ Hid (L.take k = M.take k) ∧ Drawn w wr) (fun i _ => n - (intOf i).toNat)
    case atStart => exact ⟨0, Nat.zero_le _, rfl, by simp [Hid], Drawn.refl w⟩
    case round =>
      obtain ⟨k, hk, rfl, heq, m, rfl⟩ := hrel
      by_cases hlt : k < n
      · obtain ⟨ad, x, rfl, hx, hx1, hx2, hc⟩ := hA.at_ hlt
        obtain ⟨bd, y, rfl, hy, hy1, hy2, hd⟩ := hB.at_ hlt
        by_cases hxy : x = y
        · subst hxy
          go_wp2
          go_quiet (fail)
          go_wp2
          go_roundw
          case rel => exact ⟨k + 1, by omega, by go_num, by unfold Hid; rw [List.take_add_one, List.take_add_one, heq.out, hx.out, hy.out], drawn1 _ _⟩
          case measure => simp [intOf]; omega
        · have hf := Lib.hid (show (L == M) = false by
            rw [beq_eq_false_iff_ne]; intro e; subst e; rw [hx.out] at hy; exact hxy (Option.some.inj hy.out))
          have hxy' : (x != y) = true := by simpa using hxy
          clear hxy
          go_wp2
          go_quiet (fail)
          go_wp2
          go_ret
          exact ⟨ret_bool hf.out.symm, drawn2 _ _ _⟩
      · go_wp2
        go_ret
        refine ⟨ret_bool ?_, m, rfl⟩
        have h := heq.out
        rw [List.take_of_length_le (by rw [HL.out]; omega), List.take_of_length_le (by rw [HM.out]; omega)] at h
        rw [h]; simp
  · have hf := Lib.hid (show (L == M) = false by
      rw [beq_eq_false_iff_ne]; intro e; subst e; exact hnm (HL.out.symm.trans HM.out))
    go_enter Tryd.func59, Tryd.ntmps59
    go_wp2
    go_ret
    exact ⟨ret_bool hf.out.symm, Drawn.refl w⟩
end

section
open Go.RowKit

structure LtOk (l : Lt) : Prop where
  kind : I64 l.kind
  gate : I64 l.gate
  rank : I64 l.rank
  id : I64 l.id
  sign : I64 l.sign
/-- The six cells of a letter. -/
structure LtAt (w : World) (g p : Nat) (l : Lt) : Prop where
  kind : w.cell? ⟨g, p, none⟩ = some (.int .i64 l.kind)
  gate : w.cell? ⟨g, p + 1, none⟩ = some (.int .i64 l.gate)
  rank : w.cell? ⟨g, p + 2, none⟩ = some (.int .i64 l.rank)
  id : w.cell? ⟨g, p + 3, none⟩ = some (.int .i64 l.id)
  sign : w.cell? ⟨g, p + 4, none⟩ = some (.int .i64 l.sign)
  over : w.cell? ⟨g, p + 5, none⟩ = some (.bool l.over)
/-- The slice '.slice A n c' reads as the list L of letters. -/
def Lets (w : World) (A : Option Addr) (n : Nat) (L : List Lt) : Prop :=
  L.length = n ∧ n ≤ 2932031007402 ∧ (∀ x ∈ L, LtOk x) ∧
  (0 < n → ∃ g o, A = some ⟨g, o, none⟩ ∧ g < w.heap.size ∧ ∀ j x, L[j]? = some x → LtAt w g (o + j * 6) x)
theorem LtAt.keep {w w' : World} {g p : Nat} {l : Lt} (h : LtAt w g p l) (hk : ∀ q : Addr, q.block = g → w'.cell? q = w.cell? q) : LtAt w' g p l :=
  ⟨(hk _ rfl).trans h.kind, (hk _ rfl).trans h.gate, (hk _ rfl).trans h.rank, (hk _ rfl).trans h.id, (hk _ rfl).trans h.sign, (hk _ rfl).trans h.over⟩
section
variable {w w' : World} {A : Option Addr} {n : Nat} {L : List Lt}
theorem Lets.len (h : Lets w A n L) : L.length = n := h.1
theorem Lets.le (h : Lets w A n L) : n ≤ 2932031007402 := h.2.1
theorem Lets.fits (h : Lets w A n L) : ∀ x ∈ L, LtOk x := h.2.2.1
theorem Lets.nil (w : World) (A : Option Addr) : Lets w A 0 [] := ⟨rfl, by omega, by simp, fun h => absurd h (by omega)⟩
/-- Inside a round: the address, the letter, its cells. -/
theorem Lets.at_ {k : Nat} (h : Lets w A n L) (hk : k < n) : ∃ g o, A = some ⟨g, o, none⟩ ∧ g < w.heap.size ∧ LtAt w g (o + k * 6) (la L k) ∧ LtOk (la L k) := by
  obtain ⟨hl, _, hf, hc⟩ := h
  obtain ⟨g, o, e, hb, hcell⟩ := hc (by omega)
  have hx : L[k]? = some L[k] := List.getElem?_eq_getElem (by omega)
  rw [la_of hx]
  exact ⟨g, o, e, hb, hcell k _ hx, hf _ (List.getElem_mem (by omega))⟩
/-- Another letter of a slice whose address is known. -/
theorem Lets.also {g o k : Nat} (h : Lets w (some ⟨g, o, none⟩) n L) (hk : k < n) : LtAt w g (o + k * 6) (la L k) ∧ LtOk (la L k) := by
  obtain ⟨g', o', e, _, h1, h2⟩ := h.at_ hk
  injection e with e
  injection e with e1 e2
  subst e1; subst e2
  exact ⟨h1, h2⟩
theorem Lets.keep (h : Lets w A n L) (hs : w.heap.size ≤ w'.heap.size) (hk : ∀ p : Addr, p.block < w.heap.size → w'.cell? p = w.cell? p) : Lets w' A n L :=
  ⟨h.1, h.2.1, h.2.2.1, fun hn => by
    obtain ⟨g, o, e, hb, hc⟩ := h.2.2.2 hn
    exact ⟨g, o, e, by omega, fun j x hx => (hc j x hx).keep fun q hq => hk q (by rw [hq]; exact hb)⟩⟩
theorem Lets.below (h : Lets w A n L) (hb : Below w.heap.size w w') : Lets w' A n L := h.keep hb.size fun _ hp => hb.cell hp
theorem Lets.drewN (h : Lets w A n L) (k : Nat) : Lets (w.drewN k) A n L := h.below (below_drewN (Below.refl _ _) k)
theorem Lets.drawn (h : Lets w A n L) (hd : Drawn w w') : Lets w' A n L := h.below (hd.below _)
theorem Lets.alloc (h : Lets w A n L) (o : Obj) : Lets (w.alloc o) A n L := h.below ((Below.refl _ _).alloc (Nat.le_refl _) o)
end
theorem isP_t {l : Lt} (h : l.kind = 1) : isP l = true := by unfold isP; simp [h]
theorem isP_f {l : Lt} (h : ¬l.kind = 1) : isP l = false := by unfold isP; simp [h]
theorem isC_t {l : Lt} (h : l.kind = 2) : isC l = true := by unfold isC; simp [h]
theorem isC_f {l : Lt} (h : ¬l.kind = 2) : isC l = false := by unfold isC; simp [h]
theorem pN_le (L : List Lt) (k : Nat) : pN L k ≤ k := countTo_le _ _
theorem cN_le (L : List Lt) (k : Nat) : cN L k ≤ k := countTo_le _ _
end

section
open Go.RowKit

set_option maxHeartbeats 400000 in
theorem code_Passes (K : Int) (A : Option Addr) (n c : Nat) (L : List Lt) (w : World) (hA : Lets w A n L) :
    Calls Tryd.prog 27 #[.agg #[.int .i64 K, .slice A n c]] w fun e w' => e = .returned (.int .i64 (pN L n)) ∧ Below w.heap.size w w' := by
  have hle := hA.le
  go_enter Tryd.func27, Tryd.ntmps27
  go_wp2
  go_loopw [3, 5, 9] (fun v3 _ v9 wr => ∃ k : Nat, k ≤ n ∧ v9 = .int .i64 k ∧ v3 = .int .i64 (pN L k) ∧ Below w.heap.size w wr) (fun _ _ i _ => n - (intOf i).toNat)
  case atStart => exact ⟨0, Nat.zero_le _, rfl, rfl, (Below.refl _ _).alloc (Nat.le_refl _) _⟩
  case round =>
    obtain ⟨k, hk, rfl, rfl, hb⟩ := hrel
    have hpk := pN_le L k
    by_cases hlt : k < n
    · obtain ⟨g, o, rfl, hg, hx, hok⟩ := (hA.below hb).at_ hlt
      obtain ⟨h0, h1, h2, h3, h4, h5⟩ := hx
      by_cases hp : (la L k).kind = 1
      · have hs := Lib.hid (show pN L (k + 1) = pN L k + 1 from countTo_yes (isP_t hp))
        go_wp2_with fail
        go_roundw
        case rel => exact ⟨k + 1, by omega, by go_num, by rw [hs.out]; go_num, hb.alloc hb.size _⟩
        case measure => simp [intOf]; omega
      · have hs := Lib.hid (show pN L (k + 1) = pN L k from countTo_no (isP_f hp))
        have hp' : ((la L k).kind == 1) = false := by simpa using hp
        go_wp2_with fail
        go_roundw
        case rel => exact ⟨k + 1, by omega, by go_num, by rw [hs.out], hb.alloc hb.size _⟩
        case measure => simp [intOf]; omega
    · go_wp2_with fail
      go_ret
      have hkn : k = n := by omega
      subst hkn
      exact ⟨rfl, hb⟩
set_option maxHeartbeats 400000 in
theorem code_crosses (K : Int) (A : Option Addr) (n c : Nat) (L : List Lt) (w : World) (hA : Lets w A n L) :
    Calls Tryd.prog 87 #[.agg #[.int .i64 K, .slice A n c]] w fun e w' => e = .returned (.int .i64 (cN L n)) ∧ Below w.heap.size w w' := by
  have hle := hA.le
  go_enter Tryd.func87, Tryd.ntmps87
  go_wp2
  go_loopw [3, 5, 9] (fun v3 _ v9 wr => ∃ k : Nat, k ≤ n ∧ v9 = .int .i64 k ∧ v3 = .int .i64 (cN L k) ∧ Below w.heap.size w wr) (fun _ _ i _ => n - (intOf i).toNat)
  case atStart => exact ⟨0, Nat.zero_le _, rfl, rfl, (Below.refl _ _).alloc (Nat.le_refl _) _⟩
  case round =>
    obtain ⟨k, hk, rfl, rfl, hb⟩ := hrel
    have hpk := cN_le L k
    by_cases hlt : k < n
    · obtain ⟨g, o, rfl, hg, hx, hok⟩ := (hA.below hb).at_ hlt
      obtain ⟨h0, h1, h2, h3, h4, h5⟩ := hx
      by_cases hp : (la L k).kind = 2
      · have hs := Lib.hid (show cN L (k + 1) = cN L k + 1 from countTo_yes (isC_t hp))
        go_wp2_with fail
        go_roundw
        case rel => exact ⟨k + 1, by omega, by go_num, by rw [hs.out]; go_num, hb.alloc hb.size _⟩
        case measure => simp [intOf]; omega
      · have hs := Lib.hid (show cN L (k + 1) = cN L k from countTo_no (isC_f hp))
        have hp' : ((la L k).kind == 2) = false := by simpa using hp
        go_wp2_with fail
        go_roundw
        case rel => exact ⟨k + 1, by omega, by go_num, by rw [hs.out], hb.alloc hb.size _⟩
        case measure => simp [intOf]; omega
    · go_wp2_with fail
      go_ret
      have hkn : k = n := by omega
      subst hkn
      exact ⟨rfl, hb⟩
set_option maxHeartbeats 400000 in
theorem ref_Passes (K : Int) (A : Option Addr) (n c : Nat) (L : List Lt) (w : World) (hA : Lets w A n L) :
    Calls Tryd.prog 28 #[.agg #[.int .i64 K, .slice A n c]] w fun e w' => e = .returned (.int .i64 (pN L n)) ∧ Below w.heap.size w w' := by
  have hle := hA.le
  have hb := (Below.refl w.heap.size w).alloc (Nat.le_refl _) (.cells #[.int .i64 K, .slice A n c] 24)
  have hA' := hA.alloc (.cells #[.int .i64 K, .slice A n c] 24)
  go_enter Tryd.func28, Tryd.ntmps28
  go_wp2
  go_loop [3, 4] (fun v3 v4 => ∃ k : Nat, k ≤ n ∧ v4 = .int .i64 k ∧ v3 = .int .i64 (pN L k)) (fun _ i => n - (intOf i).toNat)
  case atStart => exact ⟨0, Nat.zero_le _, rfl, rfl⟩
  case round =>
    obtain ⟨k, hk, rfl, rfl⟩ := hrel
    have hpk := pN_le L k
    by_cases hlt : k < n
    · obtain ⟨g, o, rfl, hg, hx, hok⟩ := hA'.at_ hlt
      obtain ⟨h0, _, _, _, _, _⟩ := hx
      by_cases hp : (la L k).kind = 1
      · have hs := Lib.hid (show pN L (k + 1) = pN L k + 1 from countTo_yes (isP_t hp))
        go_wp2_with fail
        go_round
        case rel => exact ⟨k + 1, by omega, by go_num, by rw [hs.out]; go_num⟩
        case measure => simp [intOf]; omega
      · have hs := Lib.hid (show pN L (k + 1) = pN L k from countTo_no (isP_f hp))
        have hp' : ((la L k).kind == 1) = false := by simpa using hp
        go_wp2_with fail
        go_round
        case rel => exact ⟨k + 1, by omega, by go_num, by rw [hs.out]⟩
        case measure => simp [intOf]; omega
    · go_wp2_with fail
      go_ret
      have hkn : k = n := by omega
      subst hkn
      exact ⟨rfl, hb⟩
set_option maxHeartbeats 400000 in
theorem ref_visits (K : Int) (A : Option Addr) (n c : Nat) (L : List Lt) (w : World) (hA : Lets w A n L) :
    Calls Tryd.prog 76 #[.agg #[.int .i64 K, .slice A n c]] w fun e w' => e = .returned (.int .i64 (cN L n)) ∧ Below w.heap.size w w' := by
  have hle := hA.le
  have hb := (Below.refl w.heap.size w).alloc (Nat.le_refl _) (.cells #[.int .i64 K, .slice A n c] 24)
  have hA' := hA.alloc (.cells #[.int .i64 K, .slice A n c] 24)
  go_enter Tryd.func76, Tryd.ntmps76
  go_wp2
  go_loop [3, 4] (fun v3 v4 => ∃ k : Nat, k ≤ n ∧ v4 = .int .i64 k ∧ v3 = .int .i64 (cN L k)) (fun _ i => n - (intOf i).toNat)
  case atStart => exact ⟨0, Nat.zero_le _, rfl, rfl⟩
  case round =>
    obtain ⟨k, hk, rfl, rfl⟩ := hrel
    have hpk := cN_le L k
    by_cases hlt : k < n
    · obtain ⟨g, o, rfl, hg, hx, hok⟩ := hA'.at_ hlt
      obtain ⟨h0, _, _, _, _, _⟩ := hx
      by_cases hp : (la L k).kind = 2
      · have hs := Lib.hid (show cN L (k + 1) = cN L k + 1 from countTo_yes (isC_t hp))
        go_wp2_with fail
        go_round
        case rel => exact ⟨k + 1, by omega, by go_num, by rw [hs.out]; go_num⟩
        case measure => simp [intOf]; omega
      · have hs := Lib.hid (show cN L (k + 1) = cN L k from countTo_no (isC_f hp))
        have hp' : ((la L k).kind == 2) = false := by simpa using hp
        go_wp2_with fail
        go_round
        case rel => exact ⟨k + 1, by omega, by go_num, by rw [hs.out]⟩
        case measure => simp [intOf]; omega
    · go_wp2_with fail
      go_ret
      have hkn : k = n := by omega
      subst hkn
      exact ⟨rfl, hb⟩
end

section
open Go.RowKit

set_option maxHeartbeats 400000 in
theorem ref_In (K G : Int) (A : Option Addr) (n c : Nat) (L : List Lt) (w : World) (hA : Lets w A n L) :
    Calls Tryd.prog 89 #[.agg #[.int .i64 K, .slice A n c], .int .i64 G] w fun e w' => e = .returned (.int .i64 (gN L G n)) ∧ Below w.heap.size w w' := by
  have hle := hA.le
  have hb := (Below.refl w.heap.size w).alloc (Nat.le_refl _) (.cells #[.int .i64 K, .slice A n c] 24)
  have hA' := hA.alloc (.cells #[.int .i64 K, .slice A n c] 24)
  go_enter Tryd.func89, Tryd.ntmps89
  go_wp2
  go_loop [5, 6] (fun v3 v4 => ∃ k : Nat, k ≤ n ∧ v4 = .int .i64 k ∧ v3 = .int .i64 (gN L G k)) (fun _ i => n - (intOf i).toNat)
  case atStart => exact ⟨0, Nat.zero_le _, rfl, rfl⟩
  case round =>
    obtain ⟨k, hk, rfl, rfl⟩ := hrel
    have hpk : gN L G k ≤ k := countTo_le _ _
    by_cases hlt : k < n
    · obtain ⟨g, o, rfl, hg, hx, hok⟩ := hA'.at_ hlt
      obtain ⟨h0, h1, h2, h3, h4, h5⟩ := hx
      by_cases hp : (la L k).kind = 1
      · by_cases hq : (la L k).gate = G
        · have hs := Lib.hid (show gN L G (k + 1) = gN L G k + 1 from countTo_yes (by rw [isP_t hp]; simp [hq]))
          go_wp2_with fail
          go_round
          case rel => exact ⟨k + 1, by omega, by go_num, by rw [hs.out]; go_num⟩
          case measure => simp [intOf]; omega
        · have hs := Lib.hid (show gN L G (k + 1) = gN L G k from countTo_no (by simp [hq]))
          have hq' : ((la L k).gate == G) = false := by simpa using hq
          go_wp2_with fail
          go_round
          case rel => exact ⟨k + 1, by omega, by go_num, by rw [hs.out]⟩
          case measure => simp [intOf]; omega
      · have hs := Lib.hid (show gN L G (k + 1) = gN L G k from countTo_no (by rw [isP_f hp]; rfl))
        have hp' : ((la L k).kind == 1) = false := by simpa using hp
        go_wp2_with fail
        go_round
        case rel => exact ⟨k + 1, by omega, by go_num, by rw [hs.out]⟩
        case measure => simp [intOf]; omega
    · go_wp2_with fail
      go_ret
      have hkn : k = n := by omega
      subst hkn
      exact ⟨rfl, hb⟩
set_option maxHeartbeats 400000 in
theorem ref_times (K G : Int) (A : Option Addr) (n c : Nat) (L : List Lt) (w : World) (hA : Lets w A n L) :
    Calls Tryd.prog 120 #[.agg #[.int .i64 K, .slice A n c], .int .i64 G] w fun e w' => e = .returned (.int .i64 (tN L G n)) ∧ Below w.heap.size w w' := by
  have hle := hA.le
  have hb := (Below.refl w.heap.size w).alloc (Nat.le_refl _) (.cells #[.int .i64 K, .slice A n c] 24)
  have hA' := hA.alloc (.cells #[.int .i64 K, .slice A n c] 24)
  go_enter Tryd.func120, Tryd.ntmps120
  go_wp2
  go_loop [5, 6] (fun v3 v4 => ∃ k : Nat, k ≤ n ∧ v4 = .int .i64 k ∧ v3 = .int .i64 (tN L G k)) (fun _ i => n - (intOf i).toNat)
  case atStart => exact ⟨0, Nat.zero_le _, rfl, rfl⟩
  case round =>
    obtain ⟨k, hk, rfl, rfl⟩ := hrel
    have hpk : tN L G k ≤ k := countTo_le _ _
    by_cases hlt : k < n
    · obtain ⟨g, o, rfl, hg, hx, hok⟩ := hA'.at_ hlt
      obtain ⟨h0, h1, h2, h3, h4, h5⟩ := hx
      by_cases hp : (la L k).kind = 2
      · by_cases hq : (la L k).id = G
        · have hs := Lib.hid (show tN L G (k + 1) = tN L G k + 1 from countTo_yes (by rw [isC_t hp]; simp [hq]))
          go_wp2_with fail
          go_round
          case rel => exact ⟨k + 1, by omega, by go_num, by rw [hs.out]; go_num⟩
          case measure => simp [intOf]; omega
        · have hs := Lib.hid (show tN L G (k + 1) = tN L G k from countTo_no (by simp [hq]))
          have hq' : ((la L k).id == G) = false := by simpa using hq
          go_wp2_with fail
          go_round
          case rel => exact ⟨k + 1, by omega, by go_num, by rw [hs.out]⟩
          case measure => simp [intOf]; omega
      · have hs := Lib.hid (show tN L G (k + 1) = tN L G k from countTo_no (by rw [isC_f hp]; rfl))
        have hp' : ((la L k).kind == 2) = false := by simpa using hp
        go_wp2_with fail
        go_round
        case rel => exact ⟨k + 1, by omega, by go_num, by rw [hs.out]⟩
        case measure => simp [intOf]; omega
    · go_wp2_with fail
      go_ret
      have hkn : k = n := by omega
      subst hkn
      exact ⟨rfl, hb⟩
theorem dwn_of {L : List Lt} {i : Nat} : (((pN L i : Nat) : Int) % 2 == 0) = dwn L i := by
  unfold dwn
  rw [Bool.eq_iff_iff]
  simp
  omega
set_option maxHeartbeats 400000 in
theorem ref_Down (K : Int) (i : Nat) (A : Option Addr) (n c : Nat) (L : List Lt) (w : World) (hA : Lets w A n L) (hi : i ≤ n) :
    Calls Tryd.prog 63 #[.agg #[.int .i64 K, .slice A n c], .int .i64 i] w fun e w' => e = .returned (.bool (dwn L i)) ∧ Below w.heap.size w w' := by
  have hle := hA.le
  have hb := (Below.refl w.heap.size w).alloc (Nat.le_refl _) (.cells #[.int .i64 K, .slice A n c] 24)
  have hA' := hA.alloc (.cells #[.int .i64 K, .slice A n c] 24)
  go_enter Tryd.func63, Tryd.ntmps63
  go_wp2
  go_loop [5, 6] (fun v3 v4 => ∃ k : Nat, k ≤ i ∧ v4 = .int .i64 k ∧ v3 = .int .i64 (pN L k)) (fun _ j => i - (intOf j).toNat)
  case atStart => exact ⟨0, Nat.zero_le _, rfl, rfl⟩
  case round =>
    obtain ⟨k, hk, rfl, rfl⟩ := hrel
    have hpk := pN_le L k
    by_cases hlt : k < i
    · obtain ⟨g, o, rfl, hg, hx, hok⟩ := hA'.at_ (k := k) (by omega)
      obtain ⟨h0, _, _, _, _, _⟩ := hx
      by_cases hp : (la L k).kind = 1
      · have hs := Lib.hid (show pN L (k + 1) = pN L k + 1 from countTo_yes (isP_t hp))
        go_wp2_with fail
        go_round
        case rel => exact ⟨k + 1, by omega, by go_num, by rw [hs.out]; go_num⟩
        case measure => simp [intOf]; omega
      · have hs := Lib.hid (show pN L (k + 1) = pN L k from countTo_no (isP_f hp))
        have hp' : ((la L k).kind == 1) = false := by simpa using hp
        go_wp2_with fail
        go_round
        case rel => exact ⟨k + 1, by omega, by go_num, by rw [hs.out]⟩
        case measure => simp [intOf]; omega
    · have hki : k = i := by omega
      subst hki
      have hd := Lib.hid (dwn_of (L := L) (i := k))
      go_wp2_with fail
      go_ret
      exact ⟨ret_bool hd.out, hb⟩
set_option maxHeartbeats 400000 in
theorem ref_Below (K : Int) (i : Nat) (A : Option Addr) (n c : Nat) (L : List Lt) (w : World) (hA : Lets w A n L) (hi : i < n) :
    Calls Tryd.prog 31 #[.agg #[.int .i64 K, .slice A n c], .int .i64 i] w fun e w' => e = .returned (.bool (!dwn L (i + 1))) ∧ Below w.heap.size w w' := by
  have hle := hA.le
  have hb := (Below.refl w.heap.size w).alloc (Nat.le_refl _) (.cells #[.int .i64 K, .slice A n c] 24)
  have hA' := hA.alloc (.cells #[.int .i64 K, .slice A n c] 24)
  go_enter Tryd.func31, Tryd.ntmps31
  go_wp2_with fail
  refine (ref_Down K (i + 1) A n c L _ hA' (by omega)).mono ?_
  rintro e w' ⟨rfl, hb'⟩
  go_wp2_with fail
  go_ret
  exact ⟨rfl, hb.trans (hb'.mono (by simp))⟩
set_option maxHeartbeats 400000 in
theorem code_Crossings (K : Int) (A : Option Addr) (n c : Nat) (L : List Lt) (w : World) (hA : Lets w A n L) :
    Calls Tryd.prog 29 #[.agg #[.int .i64 K, .slice A n c]] w fun e w' => e = .returned (.int .i64 ((cN L n / 2 : Nat) : Int)) ∧ Below w.heap.size w w' := by
  have hle := hA.le
  have hb := (Below.refl w.heap.size w).alloc (Nat.le_refl _) (.cells #[.int .i64 K, .slice A n c] 24)
  have hA' := hA.alloc (.cells #[.int .i64 K, .slice A n c] 24)
  have hcn := cN_le L n
  go_enter Tryd.func29, Tryd.ntmps29
  go_wp2_with fail
  refine (code_crosses K A n c L _ hA').mono ?_
  rintro e w' ⟨rfl, hb'⟩
  go_wp2_with fail
  go_ret
  exact ⟨ret_int (by omega), hb.trans (hb'.mono (by simp))⟩
set_option maxHeartbeats 400000 in
theorem ref_Crossings (K : Int) (A : Option Addr) (n c : Nat) (L : List Lt) (w : World) (hA : Lets w A n L) :
    Calls Tryd.prog 30 #[.agg #[.int .i64 K, .slice A n c]] w fun e w' => e = .returned (.int .i64 ((cN L n / 2 : Nat) : Int)) ∧ Below w.heap.size w w' := by
  have hle := hA.le
  have hb := (Below.refl w.heap.size w).alloc (Nat.le_refl _) (.cells #[.int .i64 K, .slice A n c] 24)
  have hA' := hA.alloc (.cells #[.int .i64 K, .slice A n c] 24)
  have hcn := cN_le L n
  go_enter Tryd.func30, Tryd.ntmps30
  go_wp2_with fail
  refine (ref_visits K A n c L _ hA').mono ?_
  rintro e w' ⟨rfl, hb'⟩
  go_wp2_with fail
  go_ret
  exact ⟨ret_int (by omega), hb.trans (hb'.mono (by simp))⟩
/-- The index of a number in a list, or -1. -/
def atI (X : List Int) (v : Int) : Int := if v ∈ X then (X.findIdx (· == v) : Nat) else -1
theorem findIdx_at {X : List Int} {v : Int} {k : Nat} (hno : ∀ j, j < k → X[j]? ≠ some v) (hk : X[k]? = some v) : X.findIdx (· == v) = k := by
  induction X generalizing k with
  | nil => simp at hk
  | cons x X ih =>
    rw [List.findIdx_cons]
    cases k with
    | zero => simp at hk; subst hk; simp
    | succ k =>
      have h0 := hno 0 (by omega)
      have : (x == v) = false := by simpa using h0
      rw [this]
      simp only [cond_false]
      rw [ih (k := k) (fun j hj => by have := hno (j + 1) (by omega); simpa using this) (by simpa using hk)]
set_option maxHeartbeats 400000 in
theorem ref_at (A : Option Addr) (n c : Nat) (X : List Int) (v : Int) (w : World) (hA : Ints w A n X) :
    Calls Tryd.prog 101 #[.slice A n c, .int .i64 v] w fun e w' => e = .returned (.int .i64 (atI X v)) ∧ w' = w := by
  have hle := hA.le
  have HL := Lib.hid hA.len
  go_enter Tryd.func101, Tryd.ntmps101
  go_wp2
  go_loop [5] (fun i => ∃ k : Nat, k ≤ n ∧ i = .int .i64 k ∧ Hid (∀ j, j < k → X[j]? ≠ some v)) (fun i => n - (intOf i).toNat)
  case atStart => exact ⟨0, Nat.zero_le _, rfl, Lib.hid (fun j hj => by omega)⟩
  case round =>
    obtain ⟨k, hk, rfl, hno⟩ := hrel
    by_cases hlt : k < n
    · obtain ⟨ad, x, rfl, hx, hx1, hx2, hc⟩ := hA.at_ hlt
      by_cases he : x = v
      · have hf := Lib.hid (show atI X v = k by unfold atI; rw [if_pos (by rw [← he]; exact List.mem_of_getElem? hx.out), findIdx_at hno.out (by rw [hx.out, he])])
        go_wp2_with fail
        go_ret
        exact ⟨ret_int hf.out.symm, rfl⟩
      · have he' : (x == v) = false := by simpa using he
        have hno' := Lib.hid (show ∀ j, j < k + 1 → X[j]? ≠ some v from fun j hj e => by
          rcases Nat.lt_or_ge j k with hl | hl
          · exact hno.out j hl e
          · have : j = k := by omega
            subst this
            rw [hx.out] at e
            exact he (Option.some.inj e))
        clear hno
        go_wp2_with fail
        go_round
        case rel => exact ⟨k + 1, by omega, by go_num, hno'⟩
        case measure => simp [intOf]; omega
    · have hf := Lib.hid (show atI X v = -1 by
        unfold atI
        rw [if_neg]
        intro hm
        obtain ⟨j, hj, e⟩ := List.getElem_of_mem hm
        have hl : X.length = n := HL.out
        exact hno.out j (by omega) (by rw [List.getElem?_eq_getElem hj, e]))
      go_wp2_with fail
      go_ret
      exact ⟨ret_int hf.out.symm, rfl⟩
set_option maxHeartbeats 400000 in
theorem ref_along (K : Int) (i : Nat) (b : Bool) (A : Option Addr) (n c : Nat) (w : World) (hi : i < n) (hle : n ≤ 2932031007402) :
    Calls Tryd.prog 147 #[.agg #[.int .i64 K, .slice A n c], .int .i64 i, .bool b] w fun e w' => e = .returned (.int .i64 (alongN n i b)) ∧ Below w.heap.size w w' := by
  have hb := (Below.refl w.heap.size w).alloc (Nat.le_refl _) (.cells #[.int .i64 K, .slice A n c] 24)
  cases b with
  | true =>
    have hf := Lib.hid (show ((alongN n i true : Nat) : Int) = 2 * (i : Int) by unfold alongN; simp)
    go_enter Tryd.func147, Tryd.ntmps147
    go_wp2_with fail
    go_ret
    exact ⟨ret_int (by rw [hf.out]), hb⟩
  | false =>
    have hf := Lib.hid (show ((alongN n i false : Nat) : Int) = 2 * (((i : Int) + n - 1) % n) + 1 by
      have e1 : ((i + n - 1 : Nat) : Int) = (i : Int) + n - 1 := by omega
      have e2 : (((i + n - 1) % n : Nat) : Int) = ((i : Int) + n - 1) % n := by rw [Int.natCast_emod, e1]
      unfold alongN
      simp only [Bool.false_eq_true, if_false]
      omega)
    have hm0 : 0 ≤ ((i : Int) + n - 1) % n := Int.emod_nonneg _ (by omega)
    have hm1 : ((i : Int) + n - 1) % n < n := Int.emod_lt_of_pos _ (by omega)
    go_enter Tryd.func147, Tryd.ntmps147
    go_wp2_with fail
    go_ret
    exact ⟨ret_int (by rw [hf.out]), hb⟩
end

section
open Go.RowKit

def othP (L : List Lt) (i j : Nat) : Bool := j != i && isC (la L j) && (la L j).id == (la L i).id
theorem oth_hit {L : List Lt} {i k : Nat} (h : NoneTo (othP L i) k) (hk : othP L i k = true) (hn : k < L.length) : othN L i = k := by
  have := find_hit h hk hn
  show (List.find? (othP L i) _).getD i = k
  rw [this]; rfl
theorem oth_none {L : List Lt} {i : Nat} (h : NoneTo (othP L i) L.length) : othN L i = i := by
  have := find_none h
  show (List.find? (othP L i) _).getD i = i
  rw [this]; rfl
set_option maxHeartbeats 800000 in
theorem ref_Other (K : Int) (i : Nat) (A : Option Addr) (n c : Nat) (L : List Lt) (w : World) (hA : Lets w A n L) (hi : i < n) :
    Calls Tryd.prog 148 #[.agg #[.int .i64 K, .slice A n c], .int .i64 i] w fun e w' => e = .returned (.int .i64 (othN L i)) ∧ Below w.heap.size w w' := by
  have hle := hA.le
  have HL := Lib.hid hA.len
  have hb := (Below.refl w.heap.size w).alloc (Nat.le_refl _) (.cells #[.int .i64 K, .slice A n c] 24)
  have hA' := hA.alloc (.cells #[.int .i64 K, .slice A n c] 24)
  obtain ⟨g, o, rfl, hg, hy, hyok⟩ := hA'.at_ hi
  go_enter Tryd.func148, Tryd.ntmps148
  go_wp2
  go_loopw [5] (fun v wr => ∃ k : Nat, k ≤ n ∧ v = .int .i64 k ∧ Hid (NoneTo (othP L i) k) ∧ Drawn (w.alloc (.cells #[.int .i64 K, .slice (some ⟨g, o, none⟩) n c] 24)) wr) (fun v _ => n - (intOf v).toNat)
  case atStart => exact ⟨0, Nat.zero_le _, rfl, Lib.hid (NoneTo.zero _), Drawn.refl _⟩
  case round =>
    obtain ⟨k, hk, rfl, hno, nd, rfl⟩ := hrel
    by_cases hlt : k < n
    · obtain ⟨hx, hok⟩ := hA'.also hlt
      obtain ⟨h0, h1, h2, h3, h4, h5⟩ := hx
      obtain ⟨_, _, _, y3, _, _⟩ := hy
      by_cases hne : k = i
      · have hd : ((k : Int) != (i : Int)) = false := by simp [hne]
        have hs := Lib.hid (hno.out.succ (show othP L i k = false by unfold othP; simp [hne]))
        clear hno hne
        go_wp2_with fail
        go_quiet (fail)
        go_wp2_with fail
        go_roundw
        case rel => exact ⟨k + 1, by omega, by go_num, hs, drawn1 _ _⟩
        case measure => simp [intOf]; omega
      · have hd : ((k : Int) != (i : Int)) = true := by simp; omega
        by_cases hp : (la L k).kind = 2
        · by_cases hq : (la L k).id = (la L i).id
          · have hf := Lib.hid (show ((othN L i : Nat) : Int) = k by rw [oth_hit hno.out (by unfold othP; simp [hne, isC_t hp, hq]) (by rw [HL.out]; exact hlt)])
            clear hno hne
            rw [hq] at h3
            go_wp2_with fail
            go_quiet (fail)
            go_wp2_with fail
            go_ret
            exact ⟨ret_int hf.out.symm, below_drewN (below_drewN hb _) _⟩
          · have hs := Lib.hid (hno.out.succ (show othP L i k = false by unfold othP; simp [hq]))
            have hq' : ((la L k).id == (la L i).id) = false := by simpa using hq
            clear hno hne hq
            go_wp2_with fail
            go_quiet (fail)
            go_wp2_with fail
            go_roundw
            case rel => exact ⟨k + 1, by omega, by go_num, hs, drawn1 _ _⟩
            case measure => simp [intOf]; omega
        · have hs := Lib.hid (hno.out.succ (show othP L i k = false by unfold othP; simp [isC_f hp]))
          have hp' : ((la L k).kind == 2) = false := by simpa using hp
          clear hno hne hp
          go_wp2_with fail
          go_quiet (fail)
          go_wp2_with fail
          go_roundw
          case rel => exact ⟨k + 1, by omega, by go_num, hs, drawn1 _ _⟩
          case measure => simp [intOf]; omega
    · have hkn : k = n := by omega
      subst hkn
      have hf := Lib.hid (show ((othN L i : Nat) : Int) = i by rw [oth_none (by rw [HL.out]; exact hno.out)])
      clear hno
      go_wp2_with fail
      go_ret
      exact ⟨ret_int hf.out.symm, below_drewN hb _⟩
/-- A letter as a value. -/
def ltV (l : Lt) : Value := .agg #[.int .i64 l.kind, .int .i64 l.gate, .int .i64 l.rank, .int .i64 l.id, .int .i64 l.sign, .bool l.over]
set_option maxHeartbeats 400000 in
theorem ref_left (a b : Lt) (w : World) :
    Calls Tryd.prog 127 #[ltV a, ltV b] w fun e w' => e = .returned (.bool (lftB a b)) ∧ Below w.heap.size w w' := by
  have hb := ((Below.refl w.heap.size w).alloc (Nat.le_refl _) (.cells #[.int .i64 a.kind, .int .i64 a.gate, .int .i64 a.rank, .int .i64 a.id, .int .i64 a.sign, .bool a.over] 46)).alloc (by simp) (.cells #[.int .i64 b.kind, .int .i64 b.gate, .int .i64 b.rank, .int .i64 b.id, .int .i64 b.sign, .bool b.over] 46)
  unfold ltV
  by_cases h1 : a.gate < b.gate
  · have hf := Lib.hid (show lftB a b = true by unfold lftB; simp [h1])
    go_enter Tryd.func127, Tryd.ntmps127
    go_wp2_with fail
    go_ret
    exact ⟨ret_bool hf.out.symm, hb⟩
  · by_cases h2 : a.gate = b.gate
    · have hf := Lib.hid (show lftB a b = decide (a.rank < b.rank) by unfold lftB; simp [h2])
      have h1' : decide (a.gate < b.gate) = false := by simpa using h1
      have h2' : (a.gate == b.gate) = true := by simpa using h2
      clear h1 h2
      go_enter Tryd.func127, Tryd.ntmps127
      go_wp2_with fail
      go_ret
      exact ⟨ret_bool hf.out.symm, hb⟩
    · have hf := Lib.hid (show lftB a b = false by unfold lftB; simp [h1, h2])
      have h1' : decide (a.gate < b.gate) = false := by simpa using h1
      have h2' : (a.gate == b.gate) = false := by simpa using h2
      clear h1 h2
      go_enter Tryd.func127, Tryd.ntmps127
      go_wp2_with fail
      go_ret
      exact ⟨ret_bool hf.out.symm, hb⟩
end
end Go.Proofs.YtkjcmppaapbabaaDoor
