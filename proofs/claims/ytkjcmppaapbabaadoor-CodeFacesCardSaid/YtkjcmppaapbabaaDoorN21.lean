/-
  The law CodeFaces returns true and leaves what was there. Condition: the argument reads as a code.
-/
import Derived.Test.YtkjcmppaapbabaaDoorJN
import Derived.Test.YtkjcmppaapbabaaDoorJL
import Derived.Test.YtkjcmppaapbabaaDoorJK
import Derived.Test.YtkjcmppaapbabaaDoorKE
namespace Go.Proofs.YtkjcmppaapbabaaDoor
open Go.RowKit
theorem places_le {K : Int} {L : List Lt} (g : Good K L) (hK : K ≤ 40) : ∀ (W : List Nat) (f : Fc), (∀ x ∈ W, x < dartsN L) → (W.foldl (fcAdd K L (axL L)) f).places.length ≤ f.places.length + 100 * W.length
  | [], f, _ => by simp
  | x :: W, f, h => by
    rw [List.foldl_cons, List.length_cons]
    have ih := places_le g hK W (fcAdd K L (axL L) f x) (fun y hy => h y (List.mem_cons_of_mem _ hy))
    have hx := h x (List.mem_cons_self ..)
    have h1 : (fcAdd K L (axL L) f x).places.length ≤ f.places.length + 100 := by
      unfold fcAdd
      split
      · simp
      · have hp := pieceP_len hK g (j := (x - 2 * L.length) / 2) (by unfold dartsN at hx; omega)
        simp only [List.length_append]
        split <;> simp <;> omega
    omega
theorem faces_places {K : Int} {L : List Lt} (g : Good K L) (hK : K ≤ 40) {F : Fc} (hF : F ∈ facesL K L) : F.places.length ≤ 100 * dartsN L := by
  unfold facesL at hF
  obtain ⟨W, hW, rfl⟩ := List.mem_map.1 hF
  have hb := g.walk_bounds.2 W hW
  have := places_le g hK W (fc0 L (xat W 0)) hb.2.2.2
  have h0 : (fc0 L (xat W 0)).places.length = 0 := rfl
  unfold faceOf
  omega
set_option maxRecDepth 100000 in
set_option maxHeartbeats 12800000 in
theorem codeFaces_any (K : Int) (A : Option Addr) (n c : Nat) (L : List Lt) (w : World) (hA : Lets w A n L) (_hc : n ≤ c) :
    Calls Tryd.prog 3 #[.agg #[.int .i64 K, .slice A n c]] w fun e w' => e = .returned (.bool true) ∧ Below w.heap.size w w' := by
  have hLn := Lib.hid hA.len
  have hbx := Boxed.refl w K A n c
  by_cases h60 : n ≤ 60
  · have hd : decide (n ≤ 60) = true := by simpa using h60
    have HD := Lib.hid hd
    clear hd
    obtain ⟨E, hE⟩ : ∃ E, checkE K L = E := ⟨_, rfl⟩
    have HE := Lib.hid hE
    clear hE
    by_cases hz : E = 0
    · subst hz
      have HSM := Lib.hid (tame_of_check HE.out)
      by_cases h0 : n = 0
      · have q0 : ((n : Int) == 0) = true := by simp; omega
        have HL0 := Lib.hid (show L = [] from List.eq_nil_of_length_eq_zero (by rw [hLn.out, h0]))
        clear h0
        go_enter Tryd.func3, Tryd.ntmps3
        go_wp2_with fail
        generalize w.alloc (.cells #[.int .i64 K, .slice A n c] 24) = X at hbx ⊢
        have hbx0 := hbx
        clear hbx
        refine (law_small K A n c L _ (hA.below hbx0.below)).mono ?_
        rintro e w1 ⟨rfl, hb⟩
        rw [HD.out]
        have hbx1 := hbx0.more hb
        clear hbx0 hb
        have c0 := hbx1.c0
        have c1 := hbx1.c1
        go_wp2_with fail
        refine (ref_Check K A n c L _ (hA.below hbx1.below)).mono ?_
        rintro e w2 ⟨rfl, hb⟩
        rw [HE.out]
        clear c0 c1
        have hbx2 := hbx1.more hb
        clear hbx1 hb
        have c0 := hbx2.c0
        have c1 := hbx2.c1
        go_wp2_with fail
        clear c0 c1
        refine (code_Faces K A n c L _ (hA.below hbx2.below)).mono ?_
        rintro e w3 ⟨fA, nf, fcc, vs, rfl, hb, hfc, _⟩
        rw [HE.out]
        have hFc := hfc HE.out
        clear hfc
        have hbx3 := hbx2.more hb
        clear hbx2 hb
        have c0 := hbx3.c0
        have c1 := hbx3.c1
        have hnf : nf = 0 := by rw [← hFc.len, HL0.out]; rfl
        subst hnf
        clear hFc
        go_wp2_with fail
        refine (law_known _).mono ?_
        rintro e w4 ⟨rfl, hb⟩
        go_wp2_with fail
        go_ret
        exact ⟨rfl, (hbx3.more hb).below⟩
      · have q0 : ((n : Int) == 0) = false := by simp; omega
        have hn60 : n ≤ 60 := h60
        have hpos : 0 < L.length := by rw [hLn.out]; omega
        have hv := (check_parts HE.out).2.2.2.resolve_left (by omega)
        have hgd := good_of_valid hpos hv
        have hK40 := (check_parts HE.out).2.1
        have hwb := hgd.walk_bounds
        have hdn : dartsN L ≤ 4 * n := by unfold dartsN; rw [axL_len, hLn.out]; have := pN_le L n; omega
        have hpl : ∀ F ∈ facesL K L, F.places.length ≤ 100000 := fun F hF => by have := faces_places hgd hK40 hF; omega
        have hfl : (facesL K L).length ≤ 1000 := by unfold facesL; rw [List.length_map]; have := hwb.1; omega
        have HG := Lib.hid hgd
        have HPL := Lib.hid hpl
        have HFL := Lib.hid hfl
        have HK40 := Lib.hid hK40
        clear hv hgd hwb hdn hpl hfl hpos h0 hK40
        go_enter Tryd.func3, Tryd.ntmps3
        go_wp2_with fail
        generalize w.alloc (.cells #[.int .i64 K, .slice A n c] 24) = X at hbx ⊢
        have hbx0 := hbx
        clear hbx
        refine (law_small K A n c L _ (hA.below hbx0.below)).mono ?_
        rintro e w1 ⟨rfl, hb⟩
        rw [HD.out]
        have hbx1 := hbx0.more hb
        clear hbx0 hb
        have c0 := hbx1.c0
        have c1 := hbx1.c1
        go_wp2_with fail
        refine (ref_Check K A n c L _ (hA.below hbx1.below)).mono ?_
        rintro e w2 ⟨rfl, hb⟩
        rw [HE.out]
        clear c0 c1
        have hbx2 := hbx1.more hb
        clear hbx1 hb
        have c0 := hbx2.c0
        have c1 := hbx2.c1
        go_wp2_with fail
        clear c0 c1
        refine (code_Faces K A n c L _ (hA.below hbx2.below)).mono ?_
        rintro e w3 ⟨fA, nf, fcc, vs, rfl, hb, hfc, _⟩
        rw [HE.out]
        have hFc := hfc HE.out
        clear hfc
        have hbx3 := hbx2.more hb
        clear hbx2 hb
        have c0 := hbx3.c0
        have c1 := hbx3.c1
        have hnf := hFc.len
        have HNF := Lib.hid hnf
        clear hnf
        go_wp2_with fail
        clear c0 c1
        refine (cref_Faces K A n c L _ (hA.below hbx3.below) HG.out hn60 HK40.out).mono ?_
        rintro e w4 ⟨gA, ng, gc, vs2, rfl, hGc, hb⟩
        have hng : ng = nf := by rw [← hGc.len, HNF.out]
        subst hng
        replace hFc := hFc.below hb
        have hbx4 := hbx3.more hb
        clear hbx3 hb
        go_wp2_with fail
        refine (same_faces fA gA ng fcc gc _ _ vs vs2 _ _ hFc hGc (by have := HFL.out; have := HNF.out; omega) HPL.out).mono ?_
        rintro e w5 ⟨rfl, hb⟩
        clear hFc hGc
        have hbx5 := hbx4.more hb
        clear hbx4 hb
        go_wp2_with fail
        refine (law_known _).mono ?_
        rintro e w6 ⟨rfl, hb⟩
        go_wp2_with fail
        go_ret
        exact ⟨rfl, (hbx5.more hb).below⟩
    · have q : (E != 0) = true := by simpa using hz
      clear hz
      go_enter Tryd.func3, Tryd.ntmps3
      go_wp2_with fail
      generalize w.alloc (.cells #[.int .i64 K, .slice A n c] 24) = X at hbx ⊢
      have hbx0 := hbx
      clear hbx
      refine (law_small K A n c L _ (hA.below hbx0.below)).mono ?_
      rintro e w1 ⟨rfl, hb⟩
      rw [HD.out]
      have hbx1 := hbx0.more hb
      clear hbx0 hb
      have c0 := hbx1.c0
      have c1 := hbx1.c1
      go_wp2_with fail
      refine (ref_Check K A n c L _ (hA.below hbx1.below)).mono ?_
      rintro e w2 ⟨rfl, hb⟩
      rw [HE.out]
      clear c0 c1
      have hbx2 := hbx1.more hb
      clear hbx1 hb
      go_wp2_with fail
      refine (law_known _).mono ?_
      rintro e w3 ⟨rfl, hb⟩
      go_wp2_with fail
      go_ret
      exact ⟨rfl, (hbx2.more hb).below⟩
  · have hd : decide (n ≤ 60) = false := by simpa using h60
    have HD := Lib.hid hd
    clear hd
    go_enter Tryd.func3, Tryd.ntmps3
    go_wp2_with fail
    generalize w.alloc (.cells #[.int .i64 K, .slice A n c] 24) = X at hbx ⊢
    have hbx0 := hbx
    clear hbx
    refine (law_small K A n c L _ (hA.below hbx0.below)).mono ?_
    rintro e w1 ⟨rfl, hb⟩
    rw [HD.out]
    have hbx1 := hbx0.more hb
    clear hbx0 hb
    go_wp2_with fail
    refine (law_known _).mono ?_
    rintro e w2 ⟨rfl, hb⟩
    go_wp2_with fail
    go_ret
    exact ⟨rfl, (hbx1.more hb).below⟩
end Go.Proofs.YtkjcmppaapbabaaDoor
