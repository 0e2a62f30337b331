/-
  Plain: what keeps a code without error, and its normal form, told by the error of codes. No walk.
  Plain: names of crossings moved on cyclically: validity and the normal form stay. No walk.
-/
import Derived.Test.YtkjcmppaapbabaaDoorJH
import Derived.Test.YtkjcmppaapbabaaDoorJK
namespace Go.Proofs.YtkjcmppaapbabaaDoor
section
theorem cN_countP (L : List Lt) : cN L L.length = L.countP isC := by
  have key : ∀ m, m ≤ L.length → cN L m = (L.take m).countP isC := by
    intro m
    induction m with
    | zero => intro _; rfl
    | succ m ih =>
      intro h
      have ht : L.take (m + 1) = L.take m ++ [la L m] := by rw [List.take_add_one, la_getI (by omega)]; rfl
      rw [ht, List.countP_append, ← ih (by omega)]
      unfold cN
      cases e : isC (la L m) with
      | true => rw [countTo_yes (p := fun i => isC (la L i)) e]; simp [e]
      | false => rw [countTo_no (p := fun i => isC (la L i)) e]; simp [e]
  have := key L.length (Nat.le_refl _)
  rwa [List.take_length] at this
theorem count_rot (L : List Lt) (i : Nat) (p : Lt → Bool) : (rotT L i).countP p = L.countP p := by
  unfold rotT
  rw [List.countP_append, Nat.add_comm, ← List.countP_append, List.take_append_drop]
theorem count_map {F : Lt → Lt} (hk : ∀ x, (F x).kind = x.kind) (L : List Lt) : (L.map F).countP isC = L.countP isC := by
  rw [List.countP_map]
  congr 1
  funext x
  show isC (F x) = isC x
  unfold isC; rw [hk]
theorem check_img {K : Int} {L M : List Lt} (h : checkE K L = 0) (hl : M.length = L.length) (hc : M.countP isC = L.countP isC) (hv : 0 < L.length → validB2 K L = true → validB2 K M = true) : checkE K M = 0 := by
  have hp := check_parts h
  have hcn : cN L L.length ≤ 200 := by
    rcases Nat.lt_or_ge 200 (cN L L.length) with q | q
    · unfold checkE at h; rw [if_pos (.inr q)] at h; cases h
    · exact q
  unfold checkE
  rw [cN_countP, hc, ← cN_countP, hl, if_neg (by omega), if_neg (by omega)]
  by_cases h0 : L.length = 0
  · rw [if_pos h0]
  · rw [if_neg h0, hv (by omega) (hp.2.2.2.resolve_left h0)]; rfl
section
variable {K : Int} {L : List Lt}
theorem check_swap (h : checkE K L = 0) : checkE K (swapL L) = 0 := check_img h (by unfold swapL; rw [List.length_map]) (count_map sw_kind L) swap_valid
theorem check_mirror (h : checkE K L = 0) : checkE K (mirrorL K L) = 0 := check_img h (by unfold mirrorL; rw [List.length_map]) (count_map (mr_kind K L) L) mirror_valid
theorem turn_rot (L : List Lt) : ∃ k, turnL L = rotT (L.map toLt) k := ⟨_, rfl⟩
theorem back_rot (L : List Lt) : ∃ k, backL L = rotT L.reverse k := ⟨_, rfl⟩
theorem check_turn (h : checkE K L = 0) : checkE K (turnL L) = 0 := by
  obtain ⟨k, e⟩ := turn_rot L
  refine check_img h (by rw [e, rot_len, List.length_map]) (by rw [e, count_rot, count_map to_kind]) turn_valid
theorem check_back (h : checkE K L = 0) : checkE K (backL L) = 0 := by
  obtain ⟨k, e⟩ := back_rot L
  refine check_img h (by rw [e, rot_len, List.length_reverse]) (by rw [e, count_rot, List.countP_reverse]) back_valid
theorem ren_count (L : List Lt) : (renL L).countP isC = L.countP isC := by rw [ren_nm]; exact count_map (nm_kind _) L
theorem check_ren (h : checkE K L = 0) : checkE K (renL L) = 0 := check_img h (ren_len L) (ren_count L) ren_valid
theorem check_norm (h : checkE K L = 0) : checkE K (normL L) = 0 := by
  rcases Nat.eq_zero_or_pos L.length with h0 | h0
  · rw [List.length_eq_zero_iff] at h0; subst h0; rw [norm_nil]; exact h
  · have hv := (check_parts h).2.2.2.resolve_left (by omega)
    refine check_img h (norm_len h0 hv) ?_ norm_valid
    obtain ⟨R, i, hR, _, _, _, e⟩ := norm_form h0 hv
    rw [e, ren_count, count_rot]
    rcases hR with rfl | rfl
    · rfl
    · rw [List.countP_reverse]
theorem check_start (h : checkE K L = 0) {i : Nat} (hi : i < L.length) (hp : isP (la L i) = true) (hd : dwn L i = true) : checkE K (rotT L i) = 0 :=
  check_img h (rot_len L i) (count_rot L i isC) (fun _ hv => start_valid hv hi hp hd)
theorem pos_or {P : List Lt → Prop} (h : checkE K L = 0) (h0 : P []) (h1 : 0 < L.length → validB2 K L = true → P L) : P L := by
  rcases Nat.eq_zero_or_pos L.length with e | e
  · rw [List.length_eq_zero_iff] at e; subst e; exact h0
  · exact h1 e ((check_parts h).2.2.2.resolve_left (by omega))
theorem n_turn_turn (h : checkE K L = 0) : normL (turnL (turnL L)) = normL L := pos_or (P := fun L => normL (turnL (turnL L)) = normL L) h rfl turn_turn
theorem n_mirror_turn (h : checkE K L = 0) : turnL (mirrorL K L) = mirrorL K (turnL L) := pos_or (P := fun L => turnL (mirrorL K L) = mirrorL K (turnL L)) h rfl mirror_turn
theorem n_swap_norm (h : checkE K L = 0) : normL (swapL (normL L)) = normL (swapL L) := pos_or (P := fun L => normL (swapL (normL L)) = normL (swapL L)) h rfl swap_norm
theorem n_mirror_norm (h : checkE K L = 0) : normL (mirrorL K (normL L)) = normL (mirrorL K L) := pos_or (P := fun L => normL (mirrorL K (normL L)) = normL (mirrorL K L)) h rfl mirror_norm
theorem n_turn_norm (h : checkE K L = 0) : normL (turnL (normL L)) = normL (turnL L) := pos_or (P := fun L => normL (turnL (normL L)) = normL (turnL L)) h rfl turn_norm
theorem n_norm_norm (h : checkE K L = 0) : normL (normL L) = normL L := pos_or (P := fun L => normL (normL L) = normL L) h rfl norm_norm
theorem n_back_norm (h : checkE K L = 0) : normL (backL L) = normL L := pos_or (P := fun L => normL (backL L) = normL L) h rfl back_norm
theorem n_start_norm (h : checkE K L = 0) {i : Nat} (hi : i < L.length) (hp : isP (la L i) = true) (hd : dwn L i = true) : normL (rotT L i) = normL L :=
  start_norm ((check_parts h).2.2.2.resolve_left (by omega)) hi hp hd
end
end

section
/-- Names from 1 to N, moved on by y. -/
def cycS (N : Nat) (y d : Int) : Int := (d + y) % (N : Int) + 1
theorem cyc_bd {N : Nat} {y d : Int} (hN : 0 < N) : 1 ≤ cycS N y d ∧ cycS N y d ≤ N := by
  unfold cycS
  have h1 := Int.emod_nonneg (d + y) (b := (N : Int)) (by omega)
  have h2 := Int.emod_lt_of_pos (d + y) (b := (N : Int)) (by omega)
  omega
theorem cyc_le {N : Nat} {y d e : Int} (hd : 1 ≤ d ∧ d ≤ N) (he : 1 ≤ e ∧ e ≤ N) (hle : e ≤ d) (h : cycS N y d = cycS N y e) : d = e := by
  unfold cycS at h
  have h1 : (d + y) % (N : Int) = (e + y) % (N : Int) := by omega
  have h2 := Int.emod_eq_emod_iff_emod_sub_eq_zero.1 h1
  rw [show d + y - (e + y) = d - e by omega, Int.emod_eq_of_lt (by omega) (by omega)] at h2
  omega
theorem cyc_inj {N : Nat} {y d e : Int} (hd : 1 ≤ d ∧ d ≤ N) (he : 1 ≤ e ∧ e ≤ N) (h : cycS N y d = cycS N y e) : d = e := by
  rcases Int.le_total e d with q | q
  · exact cyc_le hd he q h
  · exact (cyc_le he hd q h.symm).symm
section
variable {K : Int} {L : List Lt}
theorem cross_ids (h : checkE K L = 0) {i : Nat} (hi : i < L.length) (hc : isC (la L i) = true) : 1 ≤ (la L i).id ∧ (la L i).id ≤ ((cN L L.length / 2 : Nat) : Int) := by
  have hv := (check_parts h).2.2.2.resolve_left (by omega)
  have := cross_parts (valid_parts hv).2 hi hc
  exact this.2.2.2
theorem cyc_Inj (h : checkE K L = 0) (y : Int) : Inj (cycS (cN L L.length / 2) y) L := by
  intro a ha b hb hca hcb e
  obtain ⟨i, hi, rfl⟩ := la_mem.1 ha
  obtain ⟨j, hj, rfl⟩ := la_mem.1 hb
  exact cyc_inj (cross_ids h hj hcb) (cross_ids h hi hca) e
theorem cyc_valid (h : checkE K L = 0) (y : Int) (h0 : 0 < L.length) (hv : validB2 K L = true) : validB2 K (L.map (nmLt (cycS (cN L L.length / 2) y))) = true :=
  named_valid h0 hv (fun i hi hc => cyc_bd (by have := cross_ids h hi hc; omega)) (cyc_Inj h y).la
theorem cyc_check (h : checkE K L = 0) (y : Int) : checkE K (L.map (nmLt (cycS (cN L L.length / 2) y))) = 0 :=
  check_img h (List.length_map _) (count_map (nm_kind _) L) (cyc_valid h y)
theorem cyc_norm (h : checkE K L = 0) (y : Int) : normL (L.map (nmLt (cycS (cN L L.length / 2) y))) = normL L := by
  rcases Nat.eq_zero_or_pos L.length with e | e
  · rw [List.length_eq_zero_iff] at e; subst e; rfl
  · have hv := (check_parts h).2.2.2.resolve_left (by omega)
    exact named_norm e hv (cyc_Inj h y) (cyc_valid h y e hv)
end
end
end Go.Proofs.YtkjcmppaapbabaaDoor
