/-
  Plain: operations of a frame and operations by names: the same lines,the same items. No program.
  Own slices of operations whose paths are own slices too; what is read is in range; lines of operations (plain). No walk.
-/
import Derived.Test.YtlmdfmnbcndhoaaGreatDoorBk16
import Derived.Test.YtlmdfmnbcndhoaaGreatDoorBk23
namespace Go.Proofs.YtlmdfmnbcndhoaaGreatDoor
open Go.RowKit
def nsOf (L:List Fg) (s:Sg):Nst:=⟨fa L (s.f - 1).toNat,s.l,s.far,s.pc⟩
def npOf (L:List Fg) (x:Sp):Nst × Bool:=(nsOf L x.s,x.over)
def nOf (L:List Fg) (o:Og):Nop:=⟨o.kind,fa L (o.f - 1).toNat,if o.fr.f=0 then none else some (nsOf L o.fr),o.path.map (npOf L),o.over⟩
section
variable {L:List Fg} {re lo:Int}
theorem frOk.idx (h:frOk L re lo) {f:Int} (h1:1≤f) (h2:f≤(L.length:Int)):idxF L (fa L (f - 1).toNat)=f.toNat:=by
  have hi:(f - 1).toNat < L.length:=by omega
  have:=h.2.2.2.2.2 _ hi
  unfold goodF at this
  simp only [Bool.and_eq_true,decide_eq_true_eq] at this
  rw [(idxF_take hi).1 this.2]
  omega
theorem frOk.has (h:frOk L re lo) {f:Int} (h1:1≤f) (h2:f≤(L.length:Int)):thereB (fa L (f - 1).toNat)=true:=h.there (by omega)
theorem fa_idx {f:Fg} (h:idxF L f≠0):fa L ((idxF L f:Int) - 1).toNat=f:=by
  obtain ⟨i,hi⟩:∃ i,idxF L f=i+1:=⟨idxF L f - 1,by omega⟩
  have h2:=(idxF_is hi).1
  rw [show ((idxF L f:Int) - 1).toNat=i by omega]
  exact fa_of h2
theorem ns_ok (h:frOk L re lo) {s:Sg} (hs:namedB L.length s=true):okNst (nsOf L s)∧sOf L (nsOf L s)=s∧gone L (nsOf L s).f=false:=by
  obtain ⟨h1,h2,h3,h4,h5,h6⟩:=namedB_iff.1 hs
  have hx:=h.idx h1 h2
  refine ⟨⟨h.has h1 h2,h3,h4,h5,h6⟩,?_,?_⟩
  · unfold sOf nsOf
    simp only
    rw [hx]
    obtain ⟨f,l,far,pc⟩:=s
    simp only at h1 ⊢
    rw [show ((f.toNat:Nat):Int)=f by omega]
  · unfold gone nsOf
    simp only
    rw [hx]
    simp; omega
theorem right_split {k:Nat} {o:Og} (h:rightB k o=true) :
    1≤o.f∧o.f≤(k:Int)∧(∀ x∈o.path,namedB k x.s=true) ∧
    ((o.kind=1∨o.kind=2∨o.kind=8)∧o.fr=s0∧o.path=[]∧o.over=false
     ∨ o.kind=4∧o.fr=s0∧o.path=[]
     ∨ o.kind=3∧namedB k o.fr=true∧o.over=false
     ∨ o.kind=5∧namedB k o.fr=true∧o.path=[]
     ∨ (o.kind=6∨o.kind=7)∧namedB k o.fr=true∧o.fr=⟨o.fr.f,0,false,0⟩∧o.path=[]):=by
  have hk:=rightB_kind h
  unfold rightB at h
  simp only [Bool.and_eq_true,decide_eq_true_eq,Bool.or_eq_true] at h
  obtain ⟨⟨⟨⟨h1,h2⟩,h3⟩,_⟩,h5⟩:=h
  refine ⟨h1,h2,hk.2.2.2.2.1,?_⟩
  unfold restB at h5
  by_cases e1:o.kind=1∨o.kind=2∨o.kind=8
  · rw [if_pos e1] at h5
    simp only [Bool.and_eq_true,Bool.not_eq_true'] at h5
    exact .inl ⟨e1,sgB_iff.1 h5.2,h3.resolve_left (by omega),h5.1⟩
  rw [if_neg e1] at h5
  by_cases e4:o.kind=4
  · rw [if_pos e4] at h5
    exact .inr (.inl ⟨e4,sgB_iff.1 h5,h3.resolve_left (by omega)⟩)
  rw [if_neg e4] at h5
  by_cases e3:o.kind=3
  · rw [if_pos e3] at h5
    simp only [Bool.and_eq_true,Bool.not_eq_true'] at h5
    exact .inr (.inr (.inl ⟨e3,h5.2,h5.1⟩))
  rw [if_neg e3] at h5
  by_cases e5:o.kind=5
  · rw [if_pos e5] at h5
    exact .inr (.inr (.inr (.inl ⟨e5,h5,h3.resolve_left (by omega)⟩)))
  rw [if_neg e5] at h5
  by_cases e6:o.kind=6∨o.kind=7
  · rw [if_pos e6] at h5
    simp only [Bool.and_eq_true] at h5
    exact .inr (.inr (.inr (.inr ⟨e6,h5.1,sgB_iff.1 h5.2,h3.resolve_left (by omega)⟩)))
  · rw [if_neg e6] at h5; cases h5
theorem right_of {k:Nat} {o:Og} (h1:1≤o.f) (h2:o.f≤(k:Int)) (hp:∀ x∈o.path,namedB k x.s=true)
    (h:(o.kind=1∨o.kind=2∨o.kind=8)∧o.fr=s0∧o.path=[]∧o.over=false
     ∨ o.kind=4∧o.fr=s0∧o.path=[]
     ∨ o.kind=3∧namedB k o.fr=true∧o.over=false
     ∨ o.kind=5∧namedB k o.fr=true∧o.path=[]
     ∨ (o.kind=6∨o.kind=7)∧namedB k o.fr=true∧o.fr=⟨o.fr.f,0,false,0⟩∧o.path=[]):rightB k o=true:=by
  have h3:o.kind=3∨o.path=[]:=by
    rcases h with h | h | h | h | h
    · exact .inr h.2.2.1
    · exact .inr h.2.2
    · exact .inl h.1
    · exact .inr h.2.2
    · exact .inr h.2.2.2
  have hr:restB k o=true:=by
    unfold restB
    rcases h with ⟨e,h,_,h'⟩ | ⟨e,h,_⟩ | ⟨e,h,h'⟩ | ⟨e,h,_⟩ | ⟨e,h,h',_⟩
    · rw [if_pos e,h,h']; rfl
    · rw [if_neg (by omega),if_pos e,h]; rfl
    · rw [if_neg (by omega),if_neg (by omega),if_pos e,h,h']; rfl
    · rw [if_neg (by omega),if_neg (by omega),if_neg (by omega),if_pos e,h]
    · rw [if_neg (by omega),if_neg (by omega),if_neg (by omega),if_neg (by omega),if_pos e,h,← h',sgB_iff.2 rfl]; rfl
  unfold rightB
  rw [hr]
  simp only [Bool.and_eq_true,decide_eq_true_eq,Bool.or_eq_true,List.all_eq_true,and_true]
  exact ⟨⟨⟨h1,h2⟩,h3⟩,hp⟩
theorem n_ok (h:frOk L re lo) {o:Og} (ho:rightB L.length o=true):okN (nOf L o)∧oOf L (nOf L o)=o∧lostO L (nOf L o)=false:=by
  obtain ⟨h1,h2,hp,hc⟩:=right_split ho
  have hx:=h.idx h1 h2
  have hpm:(o.path.map (npOf L)).map (pOf L)=o.path:=by
    rw [List.map_map]
    conv=>rhs; rw [← List.map_id o.path]
    refine List.map_congr_left fun x hx=>?_
    simp only [Function.comp,npOf,pOf,id]
    rw [(ns_ok h (hp x hx)).2.1]
  have hpl:lostP L (o.path.map (npOf L))=false:=by
    unfold lostP
    rw [List.any_eq_false]
    intro y hy
    obtain ⟨x,hx,rfl⟩:=List.mem_map.1 hy
    rw [show (npOf L x).1.f=(nsOf L x.s).f from rfl,(ns_ok h (hp x hx)).2.2]
    simp
  have hpo:∀ y∈o.path.map (npOf L),okNst y.1:=fun y hy=>by
    obtain ⟨x,hx,rfl⟩:=List.mem_map.1 hy
    exact (ns_ok h (hp x hx)).1
  have hg:gone L (fa L (o.f - 1).toNat)=false:=by unfold gone; rw [hx]; simp; omega
  obtain ⟨kind,f,fr,path,over⟩:=o
  simp only at h1 h2 hp hc hx hpm hpl hpo hg
  have hfi:((f.toNat:Nat):Int)=f:=by omega
  unfold okN okKind nOf oOf lostO
  simp only
  rw [hx,hfi,hpm,hpl,hg]
  rcases hc with ⟨e,rfl,rfl,rfl⟩ | ⟨e,rfl,rfl⟩ | ⟨e,hn,rfl⟩ | ⟨e,hn,rfl⟩ | ⟨e,hn,h',rfl⟩
  · simp only [s0,if_true]
    exact ⟨⟨h.has h1 h2,.inl ⟨e,(by first | rfl | trivial),(by first | rfl | trivial),(by first | rfl | trivial)⟩⟩,(by first | rfl | trivial),(by first | rfl | trivial)⟩
  · simp only [s0,if_true]
    exact ⟨⟨h.has h1 h2,.inr (.inl ⟨e,(by first | rfl | trivial),(by first | rfl | trivial)⟩)⟩,(by first | rfl | trivial),(by first | rfl | trivial)⟩
  · have n0:¬fr.f=0:=by have:=(namedB_iff.1 hn).1; omega
    obtain ⟨a1,a2,a3⟩:=ns_ok h hn
    simp only [if_neg n0,Option.map_some,Option.getD_some,a2,a3]
    exact ⟨⟨h.has h1 h2,.inr (.inr (.inl ⟨e,⟨_,rfl,a1⟩,hpo,(by first | rfl | trivial)⟩))⟩,(by first | rfl | trivial),(by first | rfl | trivial)⟩
  · have n0:¬fr.f=0:=by have:=(namedB_iff.1 hn).1; omega
    obtain ⟨a1,a2,a3⟩:=ns_ok h hn
    simp only [if_neg n0,Option.map_some,Option.getD_some,a2,a3]
    exact ⟨⟨h.has h1 h2,.inr (.inr (.inr (.inl ⟨e,⟨_,rfl,a1⟩,(by first | rfl | trivial)⟩)))⟩,(by first | rfl | trivial),(by first | rfl | trivial)⟩
  · have n0:¬fr.f=0:=by have:=(namedB_iff.1 hn).1; omega
    obtain ⟨a1,a2,a3⟩:=ns_ok h hn
    simp only [if_neg n0,Option.map_some,Option.getD_some,a2,a3]
    refine ⟨⟨h.has h1 h2,.inr (.inr (.inr (.inr ⟨e,⟨(nsOf L fr).f,?_,a1.1⟩,(by first | rfl | trivial)⟩)))⟩,(by first | rfl | trivial),(by first | rfl | trivial)⟩
    unfold nsOf
    rw [h']
theorem s_ok {x:Nst} (h:okNst x) (hg:gone L x.f=false):namedB L.length (sOf L x)=true∧nsOf L (sOf L x)=x∧¬(sOf L x).f=0:=by
  have h0:idxF L x.f≠0:=by simpa [gone] using hg
  have hl:=idxF_le (f:=x.f) (L:=L)
  refine ⟨namedB_iff.2 ⟨by simp only [sOf]; omega,by simp only [sOf]; omega,h.2.1,h.2.2.1,h.2.2.2.1,h.2.2.2.2⟩,?_,by simp only [sOf]; omega⟩
  unfold nsOf sOf
  simp only
  rw [fa_idx h0]
theorem o_ok {n:Nop} (h:okN n) (hl:lostO L n=false):rightB L.length (oOf L n)=true∧nOf L (oOf L n)=n:=by
  obtain ⟨h1,h2⟩:=h
  unfold lostO at hl
  simp only [Bool.or_eq_false_iff] at hl
  obtain ⟨⟨l1,l2⟩,l3⟩:=hl
  have h0:idxF L n.f≠0:=by simpa [gone] using l1
  have hle:=idxF_le (f:=n.f) (L:=L)
  have hpath:∀ y∈n.path,gone L y.1.f=false:=fun y hy=>by
    have:=(List.any_eq_false.1 l2) y hy
    simpa using this
  obtain ⟨kind,f,fr,path,over⟩:=n
  unfold okKind at h2
  simp only at h1 h2 l1 l3 h0 hle hpath
  have hpm:(∀ y∈path,okNst y.1)→(path.map (pOf L)).map (npOf L)=path:=fun hp=>by
    rw [List.map_map]
    conv=>rhs; rw [← List.map_id path]
    refine List.map_congr_left fun x hx=>?_
    simp only [Function.comp,npOf,pOf,id]
    rw [(s_ok (hp x hx) (hpath x hx)).2.1]
  have hpn:(∀ y∈path,okNst y.1)→∀ x∈path.map (pOf L),namedB L.length x.s=true:=fun hp x hx=>by
    obtain ⟨y,hy,rfl⟩:=List.mem_map.1 hx
    exact (s_ok (hp y hy) (hpath y hy)).1
  rcases h2 with ⟨e,rfl,rfl,rfl⟩ | ⟨e,rfl,rfl⟩ | ⟨e,⟨x,rfl,hx⟩,hp,rfl⟩ | ⟨e,⟨x,rfl,hx⟩,rfl⟩ | ⟨e,⟨g,rfl,hx⟩,rfl⟩
  · refine ⟨right_of (by simp only [oOf]; omega) (by simp only [oOf]; omega) (by simp [oOf]) (.inl ⟨e,rfl,rfl,rfl⟩),?_⟩
    unfold nOf oOf
    simp only [fa_idx h0]
    rfl
  · refine ⟨right_of (by simp only [oOf]; omega) (by simp only [oOf]; omega) (by simp [oOf]) (.inr (.inl ⟨e,rfl,rfl⟩)),?_⟩
    unfold nOf oOf
    simp only [fa_idx h0]
    rfl
  · obtain ⟨a1,a2,a3⟩:=s_ok hx l3
    refine ⟨right_of (by simp only [oOf]; omega) (by simp only [oOf]; omega) (hpn hp) (.inr (.inr (.inl ⟨e,a1,rfl⟩))),?_⟩
    unfold nOf oOf
    simp only [fa_idx h0,Option.map_some,Option.getD_some,if_neg a3,a2,hpm hp]
  · obtain ⟨a1,a2,a3⟩:=s_ok hx l3
    refine ⟨right_of (by simp only [oOf]; omega) (by simp only [oOf]; omega) (by simp [oOf]) (.inr (.inr (.inr (.inl ⟨e,a1,rfl⟩)))),?_⟩
    unfold nOf oOf
    simp only [fa_idx h0,Option.map_some,Option.getD_some,if_neg a3,a2]
    rfl
  · have hxo:okNst ⟨g,0,false,0⟩:=⟨hx,by simp,by simp,by simp,by simp⟩
    obtain ⟨a1,a2,a3⟩:=s_ok (L:=L) hxo l3
    refine ⟨right_of (by simp only [oOf]; omega) (by simp only [oOf]; omega) (by simp [oOf]) (.inr (.inr (.inr (.inr ⟨e,a1,rfl,rfl⟩)))),?_⟩
    unfold nOf oOf
    simp only [fa_idx h0,Option.map_some,Option.getD_some,if_neg a3,a2]
    rfl
/-- The same line. -/
theorem place_jt (s:Sg):jt (plT (nsOf L s))=32 :: placeF L s:=by
  unfold plT placeF numT nsOf nmF
  by_cases h1:s.l=0 <;> by_cases h2:s.pc=0 <;> simp [h1,h2,jt]
theorem path_jt (P:List Sp):jt ((P.map (npOf L)).flatMap stW)=pathF L P:=by
  unfold pathF
  induction P with
  | nil=>rfl
  | cons x P ih =>
    rw [List.map_cons,List.flatMap_cons,jt_app,ih,List.flatMap_cons]
    congr 1
    unfold stW
    rw [jt_cons,tag_jt (pl_ne _)]
    rw [show (npOf L x).1=nsOf L x.s from rfl,place_jt,show (npOf L x).2=x.over from rfl]
    unfold stepF
    simp
theorem line_same {o:Og} (ho:rightB L.length o=true):lineN (nOf L o)=lineF L o:=by
  obtain ⟨h1,h2,hp,hc⟩:=right_split ho
  obtain ⟨kind,f,fr,path,over⟩:=o
  simp only at h1 h2 hp hc
  unfold lineN wdsN lineF
  rw [join_jt,jt_cons]
  simp only [nOf]
  rw [show nmF L f=nameF (fa L (f - 1).toNat) from rfl]
  have ht:jt (tlW ⟨kind,fa L (f - 1).toNat,if fr.f=0 then none else some (nsOf L fr),path.map (npOf L),over⟩)=tailF L ⟨kind,f,fr,path,over⟩:=by
    unfold tlW tailF
    simp only
    by_cases e4:kind=4
    · rw [if_pos e4,if_pos e4]; simp [jt]
    rw [if_neg e4,if_neg e4]
    by_cases e3:kind=3
    · have hn:namedB L.length fr=true:=by
        rcases hc with hc | hc | hc | hc | hc <;> first | (exfalso; omega) | exact hc.2.1
      have n0:¬fr.f=0:=by have:=(namedB_iff.1 hn).1; omega
      rw [if_pos e3,if_pos e3,if_neg n0,jt_app,path_jt,jt_cons]
      simp only [frT]
      rw [place_jt]
      simp
    rw [if_neg e3,if_neg e3]
    by_cases e5:kind=5
    · have hn:namedB L.length fr=true:=by
        rcases hc with hc | hc | hc | hc | hc <;> first | (exfalso; omega) | exact hc.2.1
      have n0:¬fr.f=0:=by have:=(namedB_iff.1 hn).1; omega
      rw [if_pos e5,if_pos e5,if_neg n0,jt_cons,jt_app]
      simp only [frT]
      rw [place_jt]
      simp [jt]
    rw [if_neg e5,if_neg e5]
    by_cases e6:kind=6
    · have hn:namedB L.length fr=true:=by
        rcases hc with hc | hc | hc | hc | hc <;> first | (exfalso; omega) | exact hc.2.1
      have n0:¬fr.f=0:=by have:=(namedB_iff.1 hn).1; omega
      rw [if_pos e6,if_pos e6,if_neg n0]
      simp [frN,jt,nsOf,nmF]
    rw [if_neg e6,if_neg e6]
    by_cases e7:kind=7
    · have hn:namedB L.length fr=true:=by
        rcases hc with hc | hc | hc | hc | hc <;> first | (exfalso; omega) | exact hc.2.1
      have n0:¬fr.f=0:=by have:=(namedB_iff.1 hn).1; omega
      rw [if_pos e7,if_pos e7,if_neg n0]
      simp [frN,jt,nsOf,nmF]
    rw [if_neg e7,if_neg e7]
    rfl
  rw [ht]
  simp
/-- The same item. -/
theorem ipath_join:∀ (P:List Sp) (i:Nat),i≤P.length→ipathF L P i=Lib.join (((P.take i).map (npOf L)).map istN) [44]
  | P,0,_=>by simp [ipathF,Lib.join_nil]
  | P,i+1,hi=>by
    have hlt:i < P.length:=by omega
    rw [ipathF,ipath_join P i (by omega),List.take_add_one,pa_get hlt]
    simp only [Option.toList_some,List.map_append,List.map_cons,List.map_nil]
    have hst:istepF L (pa P i)=istN (npOf L (pa P i)):=by
      unfold istepF istN shortF brN npOf nsOf nmF nfN
      rfl
    rw [hst]
    by_cases h0:i=0
    · subst h0; simp [Lib.join_nil,Lib.join_one]
    · rw [if_pos (by omega)]
      have hne:((P.take i).map (npOf L)).map istN≠[]:=by
        intro e
        have:=congrArg List.length e
        simp only [List.length_map,List.length_take,List.length_nil] at this
        omega
      generalize ((P.take i).map (npOf L)).map istN=T at hne ⊢
      cases T with
      | nil=>exact absurd rfl hne
      | cons x T =>
        rw [List.cons_append,Lib.join_cons,Lib.join_cons]
        simp [Lib.joinTail]
theorem item_same {o:Og} (ho:rightB L.length o=true):itemN (nOf L o)=itemF L o:=by
  obtain ⟨h1,h2,hp,hc⟩:=right_split ho
  obtain ⟨kind,f,fr,path,over⟩:=o
  simp only at h1 h2 hp hc
  unfold itemN itemF itlN itailF
  simp only [nOf]
  rw [show nmF L f=nameF (fa L (f - 1).toNat) from rfl]
  have hsh:¬fr.f=0→frI ⟨kind,fa L (f - 1).toNat,if fr.f=0 then none else some (nsOf L fr),path.map (npOf L),over⟩=shortF L fr:=fun n0=>by
    rw [if_neg n0]; rfl
  have hfn:¬fr.f=0→frN ⟨kind,fa L (f - 1).toNat,if fr.f=0 then none else some (nsOf L fr),path.map (npOf L),over⟩=nmF L fr.f:=fun n0=>by
    rw [if_neg n0]; rfl
  have hn0:(kind=3∨kind=5∨kind=6∨kind=7)→¬fr.f=0:=fun e=>by
    have hn:namedB L.length fr=true:=by
      rcases hc with hc | hc | hc | hc | hc <;> first | (exfalso; omega) | exact hc.2.1
    have:=(namedB_iff.1 hn).1; omega
  congr 1
  by_cases e4:kind=4
  · rw [if_pos e4,if_pos e4]
  rw [if_neg e4,if_neg e4]
  by_cases e3:kind=3
  · rw [if_pos e3,if_pos e3,hsh (hn0 (by omega)),ipath_join path path.length (Nat.le_refl _),List.take_length]
    by_cases hP:path=[]
    · subst hP; simp [Lib.join_nil]
    · rw [if_neg (by simpa using hP),if_neg hP]
  rw [if_neg e3,if_neg e3]
  by_cases e5:kind=5
  · rw [if_pos e5,if_pos e5,hsh (hn0 (by omega))]
  rw [if_neg e5,if_neg e5]
  by_cases e6:kind=6∨kind=7
  · rw [if_pos e6,if_pos e6,hfn (hn0 (by omega))]
  rw [if_neg e6,if_neg e6]
theorem can_same {o:Og} (ho:rightB L.length o=true):canB L o=true↔canN (nOf L o):=by
  obtain ⟨h1,h2,hp,hc⟩:=right_split ho
  have hfr:0≤o.fr.f:=(rightB_from ho).1
  unfold canB canN nOf simpB
  simp only [Bool.and_eq_true,Bool.or_eq_true,decide_eq_true_eq,List.all_eq_true]
  constructor
  · rintro ⟨⟨a,b⟩,c⟩
    refine ⟨a,fun x hx=>?_,fun y hy=>?_⟩
    · split at hx
      · cases hx
      · injection hx with hx
        subst hx
        have:=b.resolve_left (by omega)
        exact ⟨this.1.1,this.1.2,this.2⟩
    · obtain ⟨x,hx,rfl⟩:=List.mem_map.1 hy
      have:=c x hx
      exact ⟨this.1.1,this.1.2,this.2⟩
  · rintro ⟨a,b,c⟩
    refine ⟨⟨a,?_⟩,fun x hx=>?_⟩
    · by_cases h0:o.fr.f=0
      · exact .inl (by omega)
      · have:=b (nsOf L o.fr) (by rw [if_neg h0])
        exact .inr ⟨⟨this.1,this.2.1⟩,this.2.2⟩
    · have:=c (npOf L x) (List.mem_map.2 ⟨x,hx,rfl⟩)
      exact ⟨⟨this.1,this.2.1⟩,this.2.2⟩
end
end Go.Proofs.YtlmdfmnbcndhoaaGreatDoor

namespace Go.Proofs.YtlmdfmnbcndhoaaGreatDoor
open Go.RowKit
theorem oOf_ok {L:List Fg} (hL:L.length≤17592186043904) {n:Nop} (h:okN n):OgOk (oOf L n)∧∀ x∈(oOf L n).path,SgOk x.s:=by
  have hx:∀ f:Fg,(idxF L f:Int)≤17592186043904:=fun f=>by have:=idxF_le (f:=f) (L:=L); omega
  have hs:∀ x:Nst,okNst x→SgOk (sOf L x):=fun x hx'=>by
    obtain ⟨_,h1,h2,h3,h4⟩:=hx'
    have:=hx x.f
    exact ⟨⟨by simp only [sOf]; omega,by simp only [sOf]; omega⟩,⟨by simp only [sOf]; omega,by simp only [sOf]; omega⟩,⟨by simp only [sOf]; omega,by simp only [sOf]; omega⟩⟩
  have hs0:SgOk s0:=⟨⟨by simp [s0],by simp [s0]⟩,⟨by simp [s0],by simp [s0]⟩,⟨by simp [s0],by simp [s0]⟩⟩
  obtain ⟨h1,h2⟩:=h
  obtain ⟨k,f,fr,path,over⟩:=n
  have hf:=hx f
  unfold okKind at h2
  simp only at h1 h2
  have hp0:∀ x∈(List.map (pOf L) ([]:List (Nst × Bool))),SgOk x.s:=fun x hx=>by simp at hx
  rcases h2 with ⟨e,rfl,rfl,rfl⟩ | ⟨e,rfl,rfl⟩ | ⟨e,⟨x,rfl,hx'⟩,hp,rfl⟩ | ⟨e,⟨x,rfl,hx'⟩,rfl⟩ | ⟨e,⟨g,rfl,hg⟩,rfl⟩
  · exact ⟨⟨⟨by simp only [oOf]; omega,by simp only [oOf]; omega⟩,⟨by simp only [oOf]; omega,by simp only [oOf]; omega⟩,hs0⟩,hp0⟩
  · exact ⟨⟨⟨by simp only [oOf]; omega,by simp only [oOf]; omega⟩,⟨by simp only [oOf]; omega,by simp only [oOf]; omega⟩,hs0⟩,hp0⟩
  · refine ⟨⟨⟨by simp only [oOf]; omega,by simp only [oOf]; omega⟩,⟨by simp only [oOf]; omega,by simp only [oOf]; omega⟩,hs x hx'⟩,fun y hy=>?_⟩
    obtain ⟨z,hz,rfl⟩:=List.mem_map.1 hy
    exact hs z.1 (hp z hz)
  · exact ⟨⟨⟨by simp only [oOf]; omega,by simp only [oOf]; omega⟩,⟨by simp only [oOf]; omega,by simp only [oOf]; omega⟩,hs x hx'⟩,hp0⟩
  · have hgo:okNst ⟨g,0,false,0⟩:=⟨hg,by simp,by simp,by simp,by simp⟩
    exact ⟨⟨⟨by simp only [oOf]; omega,by simp only [oOf]; omega⟩,⟨by simp only [oOf]; omega,by simp only [oOf]; omega⟩,hs _ hgo⟩,hp0⟩
theorem o0_ok:OgOk o0∧∀ x∈o0.path,SgOk x.s :=
  ⟨⟨⟨by simp [o0],by simp [o0]⟩,⟨by simp [o0],by simp [o0]⟩,⟨⟨by simp [o0,s0],by simp [o0,s0]⟩,⟨by simp [o0,s0],by simp [o0,s0]⟩,⟨by simp [o0,s0],by simp [o0,s0]⟩⟩⟩,fun x hx=>by simp [o0] at hx⟩
/-- A line that is read: the operation by its names. -/
theorem par_sound {L:List Fg} {S:List UInt8} (h:parB L S=false):∃ n,okN n∧S=lineN n∧(opR L ⟨splitW S,false,false⟩).1=oOf L n∧parL L S=lostO L n:=by
  unfold parB at h
  simp only [Bool.or_eq_false_iff,Bool.not_eq_false',List.isEmpty_iff] at h
  obtain ⟨n,h1,h2,h3,h4⟩:=op_sound h.1 h.2
  exact ⟨n,h1,line_of_split h2,h3,h4⟩
theorem par_at (L:List Fg) {n:Nop} (h:okN n):parB L (lineN n)=false∧(opR L ⟨splitW (lineN n),false,false⟩).1=oOf L n∧parL L (lineN n)=lostO L n:=by
  unfold parB parL
  rw [split_line,op_at L h]
  exact ⟨rfl,rfl,rfl⟩
/-- What reading a line gives, by names. -/
theorem par_line (L:List Fg) {n:Nop} (h:okN n):parE L (lineN n)=(if lostO L n then 8 else 0)∧parO L (lineN n)=(if lostO L n then o0 else oOf L n):=by
  obtain ⟨h1,h2,h3⟩:=par_at L h
  have he:parE L (lineN n)=(if lostO L n then 8 else 0):=by unfold parE; rw [h1,h3]; rfl
  refine ⟨he,?_⟩
  unfold parO
  rw [he,h2]
  cases lostO L n <;> rfl
theorem par_no (L:List Fg) {S:List UInt8} (h:∀ n,okN n→S≠lineN n):parE L S=6∧parO L S=o0:=by
  have hb:parB L S=true:=by
    cases e:parB L S with
    | true=>rfl
    | false =>
      obtain ⟨n,h1,h2,_⟩:=par_sound e
      exact absurd h2 (h n h1)
  have he:parE L S=6:=by unfold parE; rw [hb]; rfl
  exact ⟨he,by unfold parO; rw [he]; rfl⟩
theorem parO_ok {L:List Fg} (hL:L.length≤17592186043904) (S:List UInt8):OgOk (parO L S)∧∀ x∈(parO L S).path,SgOk x.s:=by
  by_cases h:∃ n,okN n∧S=lineN n
  · obtain ⟨n,h1,rfl⟩:=h
    rw [(par_line L h1).2]
    cases lostO L n with
    | true=>exact o0_ok
    | false=>exact oOf_ok hL h1
  · rw [(par_no L fun n h1 h2=>h ⟨n,h1,h2⟩).2]
    exact o0_ok
/-- Lines: the operations, how many lines come before an error, the error. -/
noncomputable def linesP (L:List Fg):List (List UInt8)→List Og→List Og × Nat × Int
  | [],O=>(O,O.length,0)
  | [p],O=>if p=[] then (O,O.length,0) else ([],O.length,6)
  | p :: q :: r,O=>if parE L p=0 then linesP L (q :: r) (O++[parO L p]) else ([],O.length,parE L p)
theorem first_of {c:UInt8}:∀ {R:List UInt8},c∈R→∃ h r,R=h++c :: r∧c ∉ h
  | [],hc=>by simp at hc
  | x :: R,hc=>by
    by_cases e:x=c
    · exact ⟨[],R,by rw [e]; rfl,by simp⟩
    · have hR:c∈R:=by
        rcases List.mem_cons.1 hc with h | h
        · exact absurd h.symm e
        · exact h
      obtain ⟨h,r,rfl,hh⟩:=first_of hR
      exact ⟨x :: h,r,rfl,fun hm=>by
        rcases List.mem_cons.1 hm with h1 | h1
        · exact e h1.symm
        · exact hh h1⟩
theorem lines_end (L:List Fg) (O:List Og):linesP L (splt 10 []) O=(O,O.length,0):=rfl
theorem lines_open (L:List Fg) {R:List UInt8} (h:(10:UInt8) ∉ R) (h0:R≠[]) (O:List Og):linesP L (splt 10 R) O=([],O.length,6):=by
  rw [splt_one h,linesP,if_neg h0]
theorem lines_more (L:List Fg) {h r:List UInt8} (hc:(10:UInt8) ∉ h) (O:List Og):linesP L (splt 10 (h++10 :: r)) O=if parE L h=0 then linesP L (splt 10 r) (O++[parO L h]) else ([],O.length,parE L h):=by
  rw [splt_parts hc]
  cases e:splt 10 r with
  | nil=>exact absurd e (splt_ne 10 r)
  | cons q s=>rw [linesP]
/-- An own slice of operations. -/
structure OpsOwn (w:World) (base:Nat) (A:Option Addr) (n c:Nat) (Es:List Oe):Prop where
  row:Row w base 8 A n c (Es.flatMap encO)
  ok:∀ e∈Es,OgOk e.o∧Stps w e.A e.n e.o.path∧e.n≤e.c∧∀ k,blk e.A=some k→k < w.heap.size∧blk A≠some k
section
variable {w w':World} {base:Nat} {A:Option Addr} {n c:Nat} {Es:List Oe}
theorem OpsOwn.none_ (w:World) (base:Nat):OpsOwn w base none 0 0 []:=⟨Row.none_ _ _ _,by simp⟩
theorem OpsOwn.below (h:OpsOwn w base A n c Es) (hb:Below w.heap.size w w'):OpsOwn w' base A n c Es :=
  ⟨h.row.below hb,fun e he=>by obtain ⟨h1,h2,h3,h4⟩:=h.ok e he; exact ⟨h1,h2.below hb,h3,fun k hk=>⟨Nat.lt_of_lt_of_le (h4 k hk).1 hb.size,(h4 k hk).2⟩⟩⟩
theorem OpsOwn.mono {base':Nat} (h:OpsOwn w base A n c Es) (hb:base'≤base):OpsOwn w base' A n c Es:=⟨h.row.mono hb,h.ok⟩
theorem Stps.kept {B:Option Addr} {m:Nat} {P:List Sp} {row:Option Nat} (h:Stps w B m P) (hg:w.grownBy w' row) (hne:∀ k,blk B=some k→row≠some k):Stps w' B m P:=by
  refine ⟨⟨h.1.1,h.1.2.1,fun h0=>?_⟩,h.2⟩
  obtain ⟨g,o,e,hb,hc⟩:=h.1.2.2 h0
  subst e
  refine ⟨g,o,rfl,Nat.lt_of_lt_of_le hb hg.size,fun j x hx q v hv=>?_⟩
  rw [World.cell?_of_block (w:=w) (w':=w') (hg.block g hb (fun e=>hne g rfl e.symm))]
  exact hc j x hx q v hv
theorem OpsOwn.push {A':Option Addr} {N c':Nat} (h:OpsOwn w base A n c Es) (e:Oe) (he:OgOk e.o∧Stps w e.A e.n e.o.path∧e.n≤e.c∧∀ k,blk e.A=some k→k < w.heap.size∧blk A≠some k)
    (hr:Row w' base 8 A' N c' ((Es++[e]).flatMap encO)) (hg:w.grownBy w' (blk A)) (hl:∀ k,blk A'=some k→blk A=some k∨w.heap.size≤k):OpsOwn w' base A' N c' (Es++[e]):=by
  refine ⟨hr,fun x hx=>?_⟩
  have hx2:OgOk x.o∧Stps w x.A x.n x.o.path∧x.n≤x.c∧∀ k,blk x.A=some k→k < w.heap.size∧blk A≠some k:=by
    rcases List.mem_append.1 hx with h1 | h1
    · exact h.ok x h1
    · rw [List.mem_singleton.1 h1]; exact he
  obtain ⟨h1,h2,h3,h4⟩:=hx2
  refine ⟨h1,h2.kept hg (fun k hk=>(h4 k hk).2),h3,fun k hk=>⟨Nat.lt_of_lt_of_le (h4 k hk).1 hg.size,fun e2=>?_⟩⟩
  rcases hl k e2 with h5 | h5
  · exact (h4 k hk).2 h5
  · have:=(h4 k hk).1; omega
theorem OpsOwn.oprs (h:OpsOwn w base A n c Es) (hn:n≤1000000):Oprs w A n Es :=
  ⟨h.row.els (fun _=>rfl) (by omega) (by omega),fun e he=>by obtain ⟨h1,h2,h3,_⟩:=h.ok e he; exact ⟨h1,h2,h3⟩⟩
end
/-- An operation is put behind an own slice of operations. -/
theorem pushO {w:World} {ops:Array Oper} {rest:List Oper} {o:Oper} {a:Act} {Q:Exit→Act→World→Prop} (hgd:o.guard=none) (s x:Operand)
    (ho:o.op=.call { callee:=.builtin .append,args:=#[s,x],argTypes:=#[38,38] })
    {base:Nat} {A:Option Addr} {n c:Nat} {Es:List Oe} (hst:Row w base 8 A n c (Es.flatMap encO)) (y:Oe)
    (hs:a.eval s=.slice A n c) (hx:a.eval x=.slice (some ⟨w.heap.size,0,none⟩) 1 1) (N:Nat) (hN:n+1=N) (hn:N≤1000000) (hbase:base≤w.heap.size)
    (h:∀ A' c' w',Row w' base 8 A' N c' ((Es++[y]).flatMap encO)→w.grownBy w' (blk A)→(∀ k,blk A'=some k→blk A=some k∨w.heap.size≤k)→wpList Tryz.prog ops Q rest (a.put o.dst (.slice A' N c')) w') :
    wpList Tryz.prog ops Q (o :: rest) a (w.alloc (.cells #[.int .i64 y.o.kind,.int .i64 y.o.f,.int .i64 y.o.fr.f,.int .i64 y.o.fr.l,.bool y.o.fr.far,.int .i64 y.o.fr.pc,.slice y.A y.n y.c,.bool y.o.over] 32)):=by
  obtain ⟨i0,hi,hz0,hz1,hz2⟩:=info_parts opInfo
  have hbl:=(Below.refl w.heap.size w).alloc (Nat.le_refl _) (.cells #[.int .i64 y.o.kind,.int .i64 y.o.f,.int .i64 y.o.fr.f,.int .i64 y.o.fr.l,.bool y.o.fr.far,.int .i64 y.o.fr.pc,.slice y.A y.n y.c,.bool y.o.over] 32)
  have hst1:=hst.below hbl
  refine appR hgd s x 38 ho 32 i0 _ 8 80 Tryz.underlying38 hi hz0 hz1 hz2 rfl (by decide) hst1 (Src.new (m:=1) (cs:=encO y) rfl)
    (by intro u hu; simp [encO] at hu; rcases hu with rfl | rfl | rfl | rfl | rfl | rfl | rfl | rfl <;> rfl) hs hx N hN (by unfold maxLen; omega) (by omega) (by simp; omega) ?_
  intro A' c' w' h1 h2 h3 _
  refine h A' c' w' (by rw [List.flatMap_append]; simpa using h1) ?_ (fun k hk=>?_)
  · exact only_trans (grown_of hbl) h2
  · rcases h3 k hk with e | e
    · exact .inl e
    · exact .inr (by simp at e; omega)
theorem cut_line (s:List UInt8) (hs:s.length≤100000) (w:World) (ht:Tabs w) :
    Calls Tryz.prog 62 #[.string (bA s),.string ⟨#[10]⟩] w fun e w'=>e=.returned (.tuple #[.string (bA (Lib.cut s [10]).1),.string (bA (Lib.cut s [10]).2.1),.bool (Lib.cut s [10]).2.2])∧Below w.heap.size w w':=by
  obtain ⟨m,hm⟩:=ht.most
  have h:=Tryz.strings_Cut (bA s) (bA [10]) m w (by rw [bA_size]; omega) hm
  rw [bA_list,bA_list] at h
  refine h.mono ?_
  rintro e w' ⟨rfl,n,rfl⟩
  exact ⟨rfl,below_drewN (Below.refl _ _) n⟩
/-- What reading operations gives: they in memory of the call's own, a number, an error. -/
def OpsErr (w0:World) (O:List Og) (n er:Int) (e:Ending) (w':World):Prop :=
  ∃ B m d Es,e=.returned (.tuple #[.slice B m d,.int .i64 n,.int .i64 er])∧List.map (fun x:Oe=>x.o) Es=O∧m≤1000000∧OpsOwn w' w0.heap.size B m d Es∧Below w0.heap.size w0 w'
end Go.Proofs.YtlmdfmnbcndhoaaGreatDoor
