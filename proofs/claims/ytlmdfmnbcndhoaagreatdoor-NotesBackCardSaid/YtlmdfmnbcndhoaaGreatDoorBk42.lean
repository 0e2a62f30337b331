/-
  Plain: operations are read back from their lines and from their items. No program.
  NotesBack returns true. Conditions: the frame and the operations read; the library's tables stand.
  What the row asks behind a call that leaves all old memory as it was and returns true. No condition.
-/
import Derived.Test.YtlmdfmnbcndhoaaGreatDoorBk25
import Derived.Test.YtlmdfmnbcndhoaaGreatDoorBk41
import Derived.Test.YtlmdfmnbcndhoaaGreatDoorBk40
import Derived.Test.YtlmdfmnbcndhoaaGreatDoorRows
import Derived.Test.YtlmdfmnbcndhoaaGreatDoorTie
import Derived.Test.YtlmdfmnbcndhoaaGreatDoorCards
import Derived.Test.YtlmdfmnbcndhoaaGreatDoorBk01
import Derived.ProofKit
import Derived.LaidMore
import Derived.OpenShut
import Derived.Stop.Joined
import Derived.SizedLaws
namespace Go.Proofs.YtlmdfmnbcndhoaaGreatDoor
open Go.RowKit
theorem join_mem {b:UInt8} {sep:List UInt8}:∀ {T:List (List UInt8)},b∈Lib.join T sep→b∈sep∨∃ p∈T,b∈p
  | [],h=>by rw [Lib.join_nil] at h; simp at h
  | x :: T,h=>by
    rw [Lib.join_cons] at h
    rcases List.mem_append.1 h with h | h
    · exact .inr ⟨x,List.mem_cons_self ..,h⟩
    · unfold Lib.joinTail at h
      obtain ⟨q,hq,hb⟩:=List.mem_flatten.1 h
      obtain ⟨p,hp,rfl⟩:=List.mem_map.1 hq
      rcases List.mem_append.1 hb with hb | hb
      · exact .inl hb
      · exact .inr ⟨p,List.mem_cons_of_mem _ hp,hb⟩
theorem fine_no10 {A:List (List UInt8)} (h:fineT A):∀ p∈A,(10:UInt8) ∉ p:=fun p hp=>(h p hp).no10
theorem tag_no10:∀ {A:List (List UInt8)},fineT A→∀ p∈tag A,(10:UInt8) ∉ p
  | [],_,p,hp=>by simp [tag] at hp
  | [x],h,p,hp=>by
    simp only [tag,List.mem_singleton] at hp
    subst hp
    intro e
    rcases List.mem_append.1 e with e | e
    · exact (h x (List.mem_cons_self ..)).no10 e
    · simp at e
  | x :: y :: r,h,p,hp=>by
    rw [tag] at hp
    rcases List.mem_cons.1 hp with rfl | e
    · exact (h p (List.mem_cons_self ..)).no10
    · exact tag_no10 (A:=y :: r) (fun S hS=>h S (List.mem_cons_of_mem _ hS)) p e
theorem wds_no10 (n:Nop):∀ p∈wdsN n,(10:UInt8) ∉ p:=by
  have hf:=fine_fr n
  have hn:=fine_frN n
  have ho:=fine_over n.over
  have ht:∀ p∈tlW n,(10:UInt8) ∉ p:=by
    unfold tlW
    split
    · exact fine_no10 (.cons ho .nil)
    split
    · intro p hp
      rcases List.mem_append.1 hp with h | h
      · obtain ⟨x,_,h⟩:=List.mem_flatMap.1 h
        rcases List.mem_cons.1 h with rfl | h
        · exact (fine_over _).no10
        · exact tag_no10 (fine_pl _) p h
      · exact fine_no10 (.cons fine_from hf) p h
    split
    · exact fine_no10 (.cons fine_from (hf.app (.cons ho .nil)))
    split
    · exact fine_no10 (.cons fine_from (.cons hn (.cons ho .nil)))
    split
    · exact fine_no10 (.cons fine_with (.cons hn (.cons ho .nil)))
    · simp
  intro p hp
  rcases List.mem_cons.1 hp with rfl | hp
  · exact (fine_verb _).no10
  rcases List.mem_cons.1 hp with rfl | hp
  · exact (fine_name _).no10
  · exact ht p hp
theorem jt_no10:∀ {A:List (List UInt8)},(∀ p∈A,(10:UInt8) ∉ p)→(10:UInt8) ∉ jt A:=fun {A} h e=>by
  obtain ⟨p,hp,e⟩:=List.mem_flatMap.1 e
  rcases List.mem_cons.1 e with e | e
  · cases e
  · exact h p hp e
theorem lineN_no10 (n:Nop):(10:UInt8) ∉ lineN n:=by
  have h:=wds_no10 n
  unfold lineN
  rw [show wdsN n=verbF n.kind :: (nameF n.f :: tlW n) from rfl,join_jt]
  intro e
  rcases List.mem_append.1 e with e | e
  · exact (fine_verb _).no10 e
  · exact jt_no10 (fun p hp=>h p (List.mem_cons_of_mem _ hp)) e
section
variable {L:List Fg} {re lo:Int}
theorem lineF_no10 {o:Og} (ho:rightB L.length o=true):(10:UInt8) ∉ lineF L o:=by rw [← line_same ho]; exact lineN_no10 _
theorem line_back (h:frOk L re lo) {o:Og} (ho:rightB L.length o=true):parE L (lineF L o)=0∧parO L (lineF L o)=o:=by
  obtain ⟨h1,h2,h3⟩:=n_ok h ho
  have h4:=par_line L h1
  rw [line_same ho,h3] at h4
  exact ⟨h4.1,h4.2.trans h2⟩
theorem lines_back (h:frOk L re lo):∀ (O P:List Og),(∀ o∈O,rightB L.length o=true)→linesP L (splt 10 (linesF L O)) P=(P++O,(P++O).length,0)
  | [],P,_=>by rw [List.append_nil]; exact lines_end L P
  | o :: O,P,hO=>by
    have ho:=hO o (List.mem_cons_self ..)
    have hb:=line_back h ho
    rw [show linesF L (o :: O)=lineF L o++10 :: linesF L O by simp [linesF],lines_more L (lineF_no10 ho),hb.1,if_pos rfl,hb.2,lines_back h O _ (fun x hx=>hO x (List.mem_cons_of_mem _ hx))]
    simp
theorem checkN_zero {O:List Og} (h:checkN L re lo O=0):frB L re lo=true∧frOk L re lo∧∀ o∈O,rightB L.length o=true:=by
  rcases checkN_cases L re lo O with ⟨_,h1,h2⟩ | h2
  · exact ⟨frB_iff.2 h1,h1,h2⟩
  · rw [h2] at h; cases h
theorem begin_at {S:List UInt8} (h:frB L re lo=true) (hS:S.length≤8000):beginN L re lo S=0:=by unfold beginN; rw [if_pos h,if_neg (by omega)]
/-- Lines are read back. -/
theorem rl_back {O:List Og} (h:checkN L re lo O=0) (hS:(linesF L O).length≤8000):rlR L re lo (linesF L O)=(O,O.length,0):=by
  obtain ⟨h1,h2,h3⟩:=checkN_zero h
  unfold rlR
  rw [if_pos (begin_at h1 hS),lines_back h2 O [] h3,List.nil_append]
theorem item_no32 (n:Nop):(32:UInt8) ∉ itemN n:=by
  have hb:∀ x:Nst,(32:UInt8) ∉ brN x:=fun x e=>by
    unfold brN at e
    rcases List.mem_append.1 e with e | e
    · exact (fine_name _).no32 e
    · unfold nfN at e; split at e <;> simp at e
  have hl:∀ b:Bool,(32:UInt8) ∉ letterF b:=fun b e=>by cases b <;> simp [letterF] at e
  have hi:∀ x:Nst × Bool,(32:UInt8) ∉ istN x:=fun x e=>by
    unfold istN at e
    rcases List.mem_append.1 e with e | e
    · exact hb _ e
    · exact hl _ e
  have hj:∀ P:List (Nst × Bool),(32:UInt8) ∉ Lib.join (P.map istN) [44]:=fun P e=>by
    rcases join_mem e with e | ⟨p,hp,e⟩
    · simp at e
    · obtain ⟨x,_,rfl⟩:=List.mem_map.1 hp
      exact hi x e
  have hf:(32:UInt8) ∉ frI n:=fun e=>by
    unfold frI at e
    split at e
    · exact hb _ e
    · simp at e
  have hn:(32:UInt8) ∉ frN n:=(fine_frN n).no32
  have hs:(32:UInt8) ∉ signS n.kind:=fun e=>by
    unfold signS at e
    repeat' split at e
    all_goals simp at e
  intro e
  unfold itemN at e
  rcases List.mem_append.1 e with e | e
  · rcases List.mem_append.1 e with e | e
    · exact (fine_name _).no32 e
    · exact hs e
  · unfold itlN at e
    split at e
    · exact hl _ e
    split at e
    · rcases List.mem_append.1 e with e | e
      · split at e
        · simp at e
        · rcases List.mem_append.1 e with e | e
          · exact hj _ e
          · simp at e
      · exact hf e
    split at e
    · rcases List.mem_append.1 e with e | e
      · exact hf e
      · exact hl _ e
    split at e
    · rcases List.mem_append.1 e with e | e
      · exact hn e
      · exact hl _ e
    · simp at e
theorem item_ne (n:Nop):itemN n≠[]:=fun e=>by
  unfold itemN nameF at e
  have:=congrArg List.length e
  simp at this
theorem item_back (h:frOk L re lo) {o:Og} (ho:rightB L.length o=true) (hc:canB L o=true):scanF (itemF L o)=some (nOf L o):=by
  obtain ⟨h1,h2,h3⟩:=n_ok h ho
  rw [← item_same ho]
  exact scan_at h1 ((can_same ho).1 hc)
theorem items_back (h:frOk L re lo):∀ {O:List Og},(∀ o∈O,rightB L.length o=true)→(∀ o∈O,canB L o=true)→scanA (O.map (itemF L))=some (O.map (nOf L))
  | [],_,_=>rfl
  | o :: O,hO,hC=>by
    rw [List.map_cons,scanA,item_back h (hO o (List.mem_cons_self ..)) (hC o (List.mem_cons_self ..)),items_back h (fun x hx=>hO x (List.mem_cons_of_mem _ hx)) (fun x hx=>hC x (List.mem_cons_of_mem _ hx))]
    rfl
theorem it_back (h:frOk L re lo) {O:List Og} (hO:∀ o∈O,rightB L.length o=true) (hC:∀ o∈O,canB L o=true):itE L (signsF L O)=0∧itO L (signsF L O)=O:=by
  by_cases h0:O=[]
  · subst h0
    have:signsF L []=[]:=by unfold signsF; simp [Lib.join_nil]
    rw [this]
    exact ⟨by unfold itE; rw [if_pos rfl],by unfold itO; rw [if_pos rfl]⟩
  · have hsp:splt 32 (signsF L O)=O.map (itemF L):=by
      unfold signsF
      refine splt_join (by simpa using h0) fun p hp=>?_
      obtain ⟨o,ho,rfl⟩:=List.mem_map.1 hp
      rw [← item_same (hO o ho)]
      exact item_no32 _
    have hne:signsF L O≠[]:=fun e=>by
      rw [e] at hsp
      cases O with
      | nil=>exact h0 rfl
      | cons o O =>
        rw [List.map_cons] at hsp
        have h1:splt 32 []=[[]]:=rfl
        rw [h1] at hsp
        injection hsp with hsp
        rw [← item_same (hO o (List.mem_cons_self ..))] at hsp
        exact item_ne _ hsp.symm
    have hlost:(O.map (nOf L)).any (lostO L)=false:=by
      rw [List.any_eq_false]
      intro n hn
      obtain ⟨o,ho,rfl⟩:=List.mem_map.1 hn
      rw [(n_ok h (hO o ho)).2.2]
      simp
    have hmap:(O.map (nOf L)).map (oOf L)=O:=by
      rw [List.map_map]
      conv=>rhs; rw [← List.map_id O]
      refine List.map_congr_left fun o ho=>?_
      exact (n_ok h (hO o ho)).2.1
    have hsc:=items_back h hO hC
    constructor
    · unfold itE
      rw [if_neg hne,hsp,hsc]
      simp only
      rw [hlost]
      rfl
    · unfold itO
      rw [if_neg hne,hsp,hsc]
      simp only
      rw [hlost]
      exact hmap
/-- Items are read back. -/
theorem rs_back {O:List Og} (h:sgnE L re lo O=0) (hS:(sgnS L re lo O).length≤8000):rsE L re lo (sgnS L re lo O)=0∧rsO L re lo (sgnS L re lo O)=O:=by
  have hs:sgnS L re lo O=signsF L O:=by unfold sgnS; rw [if_pos h]
  rw [hs] at hS ⊢
  unfold sgnE at h
  by_cases hk:checkN L re lo O=0
  · rw [if_pos hk] at h
    obtain ⟨h1,h2,h3⟩:=checkN_zero hk
    have hc:∀ o∈O,canB L o=true:=by
      split at h
      · rename_i e; simpa using e
      · cases h
    obtain ⟨h4,h5⟩:=it_back h2 h3 hc
    unfold rsE rsO
    rw [if_pos (begin_at h1 hS),if_pos (begin_at h1 hS)]
    exact ⟨h4,h5⟩
  · rw [if_neg hk] at h
    exact absurd h hk
end
end Go.Proofs.YtlmdfmnbcndhoaaGreatDoor

namespace Go.Proofs.YtlmdfmnbcndhoaaGreatDoor
open Go.RowKit
theorem lshort_is {n:Nat} {b:Bool} (h:decide (n≤60)=b) (A:Option Addr) (c:Nat) (re lo:Int) (w:World) :
    Calls Tryz.prog 15 #[frV A n c re lo] w fun e w'=>e=.returned (.bool b)∧Below w.heap.size w w':=by
  subst h; exact law_short A n c re lo w
theorem lfit_is {Es:List Oe} {most:Nat} {b:Bool} (h:fitB most Es=b) (A:Option Addr) (n c:Nat) (w:World) (hA:Oprs w A n Es) (hm:most≤1000) :
    Calls Tryz.prog 21 #[.slice A n c,.int .i64 (most:Int)] w fun e w'=>e=.returned (.bool b)∧Below w.heap.size w w':=by
  subst h; exact law_fit A n c Es most w hA hm
theorem lines_is {A:Option Addr} {n c:Nat} {L:List Fg} {re lo:Int} {B:Option Addr} {m:Nat} {Es:List Oe} {E:Int} {S:List UInt8} (hE:checkN L re lo (ogs Es)=E) (hS:(if E=0 then linesF L (ogs Es) else [])=S) (d:Nat) (w:World) (hA:Fgs w A n L) (hc:n≤c) (hO:Oprs w B m Es) (hm:m≤10000) (hf:fitN Es) (ht:Tabs w) :
    Calls Tryz.prog 22 #[frV A n c re lo,.slice B m d] w fun e w'=>e=.returned (.tuple #[.string (bA S),.int .i64 E])∧Below w.heap.size w w':=by
  subst hE; subst hS; exact notes_Lines A n c L re lo B m d Es w hA hc hO hm hf ht
theorem signs_is {A:Option Addr} {n c:Nat} {L:List Fg} {re lo:Int} {B:Option Addr} {m:Nat} {Es:List Oe} {E:Int} {S:List UInt8} (hE:sgnE L re lo (ogs Es)=E) (hS:sgnS L re lo (ogs Es)=S) (d:Nat) (w:World) (hA:Fgs w A n L) (hc:n≤c) (hO:Oprs w B m Es) (hm:m≤10000) (hf:fitN Es) :
    Calls Tryz.prog 28 #[frV A n c re lo,.slice B m d] w fun e w'=>e=.returned (.tuple #[.string (bA S),.int .i64 E])∧Below w.heap.size w w':=by
  subst hE; subst hS; exact notes_Signs A n c L re lo B m d Es w hA hc hO hm hf
theorem sameOps_is {Es Ds:List Oe} (h:ogs Es=ogs Ds) (A:Option Addr) (n c:Nat) (B:Option Addr) (m d:Nat) (w:World) (hA:Oprs w A n Es) (hB:Oprs w B m Ds) :
    Calls Tryz.prog 27 #[.slice A n c,.slice B m d] w fun e w'=>e=.returned (.bool true)∧Below w.heap.size w w':=by
  have:=href_SameOps A n c Es B m d Ds w hA hB
  rw [decide_eq_true h] at this
  exact this
theorem fitN_of {most:Nat} {Es:List Oe} (h:fitB most Es=true):fitN Es:=fun e he=>Nat.le_trans ((fitB_yes h).2 e he) (by omega)
theorem readLines_is {A:Option Addr} {n c:Nat} {L:List Fg} {re lo:Int} {S:List UInt8} {O:List Og} {k:Nat} {E:Int} (h:rlR L re lo S=(O,k,E)) (w:World) (hA:Fgs w A n L) (hc:n≤c) (ht:Tabs w) :
    Calls Tryz.prog 23 #[frV A n c re lo,.string (bA S)] w (OpsErr w O k E):=by
  have:=notes_ReadLines ⟨A,n,c,L,re,lo⟩ S w hA hc ht
  simp only at this
  rw [h] at this
  exact this
theorem readSigns_is {A:Option Addr} {n c:Nat} {L:List Fg} {re lo:Int} {S:List UInt8} {O:List Og} {E:Int} (h1:rsE L re lo S=E) (h2:rsO L re lo S=O) (w:World) (hA:Fgs w A n L) (hc:n≤c) (ht:Tabs w) :
    Calls Tryz.prog 31 #[frV A n c re lo,.string (bA S)] w (ItErr w O E):=by
  subst h1; subst h2; exact notes_ReadSigns ⟨A,n,c,L,re,lo⟩ S w hA hc ht
set_option maxRecDepth 100000 in
set_option maxHeartbeats 12800000 in
theorem notesBack_any (A:Option Addr) (n c:Nat) (L:List Fg) (re lo:Int) (B:Option Addr) (m d:Nat) (Es:List Oe) (w:World) (hA:Fgs w A n L) (hc:n≤c) (hO:Oprs w B m Es) (ht:Tabs w) :
    Calls Tryz.prog 7 #[frV A n c re lo,.slice B m d] w fun e w'=>e=.returned (.bool true)∧Below w.heap.size w w':=by
  have HA:=Lib.hid hA
  have HO:=Lib.hid hO
  have HT:=Lib.hid ht
  have HB:=Lib.hid (Below.refl w.heap.size w)
  have HLN:=Lib.hid hO.len
  have HC:=Lib.hid hc
  clear hA hO ht hc
  by_cases h60:n≤60
  · cases hft:fitB 8 Es with
    | true =>
        have HS:=Lib.hid (show decide (n≤60)=true by simpa using h60)
        have hm8:m≤8:=by have:=(fitB_yes hft).1; have:=HLN.out; omega
        have HM:=Lib.hid (show m≤10000 by omega)
        have HFN:=Lib.hid (fitN_of hft)
        have HFT:=Lib.hid hft
        obtain ⟨E1,hE1⟩:∃ E,checkN L re lo (ogs Es)=E:=⟨_,rfl⟩
        obtain ⟨S1,hS1⟩:∃ S,(if E1=0 then linesF L (ogs Es) else [])=S:=⟨_,rfl⟩
        obtain ⟨E2,hE2⟩:∃ E,sgnE L re lo (ogs Es)=E:=⟨_,rfl⟩
        obtain ⟨S2,hS2⟩:∃ S,sgnS L re lo (ogs Es)=S:=⟨_,rfl⟩
        have HE1:=Lib.hid hE1
        have HS1:=Lib.hid hS1
        have HE2:=Lib.hid hE2
        have HS2:=Lib.hid hS2
        have HOL:=Lib.hid (show (ogs Es).length=m by unfold ogs; rw [List.length_map]; exact HLN.out)
        clear hft h60 hm8 hE1 hS1 hE2 hS2
        go_enter Tryz.func7,Tryz.ntmps7
        have hba:=(Below.refl w.heap.size w).alloc (Nat.le_refl _) (.cells #[.slice A n c,.int .i64 re,.int .i64 lo] 24)
        replace HA:=Lib.hid (HA.out.below hba)
        replace HO:=Lib.hid (HO.out.below hba)
        replace HT:=Lib.hid (HT.out.below hba)
        replace HB:=Lib.hid (below_chain HB.out hba HB.out.size)
        have kf:=Blk.new w 24 #[.slice A n c,.int .i64 re,.int .i64 lo]
        clear hba
        go_upto_region 1 with fail
        generalize w.alloc (.cells #[.slice A n c,.int .i64 re,.int .i64 lo] 24)=X at HA HO HT HB kf ⊢
        have c0:X.cell? ⟨w.heap.size,0,none⟩=some (.slice A n c):=(kf.cell 0).trans rfl
        have c1:X.cell? ⟨w.heap.size,1,none⟩=some (.int .i64 re):=(kf.cell 1).trans rfl
        have c2:X.cell? ⟨w.heap.size,2,none⟩=some (.int .i64 lo):=(kf.cell 2).trans rfl
        go_wp2_with fail
        refine (lshort_is HS.out A c re lo _).mono ?_
        rintro e u1 ⟨rfl,hb⟩
        clear c0 c1 c2
        replace HA:=Lib.hid (HA.out.below hb)
        replace HO:=Lib.hid (HO.out.below hb)
        replace HT:=Lib.hid (HT.out.below hb)
        replace HB:=Lib.hid (below_chain HB.out hb HB.out.size)
        replace kf:=kf.below hb kf.lt
        clear hb
        have c0:u1.cell? ⟨w.heap.size,0,none⟩=some (.slice A n c):=(kf.cell 0).trans rfl
        have c1:u1.cell? ⟨w.heap.size,1,none⟩=some (.int .i64 re):=(kf.cell 1).trans rfl
        have c2:u1.cell? ⟨w.heap.size,2,none⟩=some (.int .i64 lo):=(kf.cell 2).trans rfl
        go_wp2_with fail
        refine (lfit_is (most:=8) HFT.out B m d _ HO.out (by omega)).mono ?_
        rintro e u2 ⟨rfl,hb⟩
        clear c0 c1 c2
        replace HA:=Lib.hid (HA.out.below hb)
        replace HO:=Lib.hid (HO.out.below hb)
        replace HT:=Lib.hid (HT.out.below hb)
        replace HB:=Lib.hid (below_chain HB.out hb HB.out.size)
        replace kf:=kf.below hb kf.lt
        clear hb
        have c0:u2.cell? ⟨w.heap.size,0,none⟩=some (.slice A n c):=(kf.cell 0).trans rfl
        have c1:u2.cell? ⟨w.heap.size,1,none⟩=some (.int .i64 re):=(kf.cell 1).trans rfl
        have c2:u2.cell? ⟨w.heap.size,2,none⟩=some (.int .i64 lo):=(kf.cell 2).trans rfl
        go_wp2_with fail
        refine (lines_is HE1.out HS1.out d _ HA.out HC.out HO.out HM.out HFN.out HT.out).mono ?_
        rintro e u3 ⟨rfl,hb⟩
        clear c0 c1 c2
        replace HA:=Lib.hid (HA.out.below hb)
        replace HO:=Lib.hid (HO.out.below hb)
        replace HT:=Lib.hid (HT.out.below hb)
        replace HB:=Lib.hid (below_chain HB.out hb HB.out.size)
        replace kf:=kf.below hb kf.lt
        clear hb
        obtain ⟨x,hx⟩:∃ x,decide (E1=0∧S1.length≤8000)=x:=⟨_,rfl⟩
        have HX:=Lib.hid hx
        clear hx
        go_upto_region 4 with fail
        go_cut [34] (fun v wv=>v=.bool x∧wv=u3)
        case first =>
          by_cases q0:E1=0
          · subst q0
            by_cases q2:S1.length≤8000
            · have i1:(((bA S1).size:Nat):Int)≤8000:=by rw [bA_size]; omega
              obtain rfl:x=true:=by rw [← HX.out]; simp [q2]
              clear q2
              go_wp2_with fail
              go_meet
              case rel=>exact ⟨rfl,rfl⟩
            · have i1:¬ (((bA S1).size:Nat):Int)≤8000:=by rw [bA_size]; omega
              obtain rfl:x=false:=by rw [← HX.out]; simp [q2]
              clear q2
              go_wp2_with fail
              go_meet
              case rel=>exact ⟨rfl,rfl⟩
          · have q2:(E1 == 0)=false:=by simpa using q0
            obtain rfl:x=false:=by rw [← HX.out]; simp [q0]
            clear q0
            go_wp2_with fail
            go_meet
            case rel=>exact ⟨rfl,rfl⟩
        case rest =>
          obtain ⟨rfl,hV⟩:=hcut
          subst wc
          go_upto_if 34 with fail
          go_cut [6] (fun _ wv=>∃ V:World,V=wv∧Below u3.heap.size u3 V)
          case first =>
            cases x with
            | true =>
              obtain ⟨q1,q2⟩:=of_decide_eq_true HX.out
              clear HX
              subst q1
              have hS1':linesF L (ogs Es)=S1:=by have:=HS1.out; rwa [if_pos rfl] at this
              have HRL:=Lib.hid (show rlR L re lo S1=(ogs Es,m,0) by rw [← hS1',rl_back HE1.out (by rw [hS1']; exact q2),HOL.out])
              clear hS1' q2
              have c0:u3.cell? ⟨w.heap.size,0,none⟩=some (.slice A n c):=(kf.cell 0).trans rfl
              have c1:u3.cell? ⟨w.heap.size,1,none⟩=some (.int .i64 re):=(kf.cell 1).trans rfl
              have c2:u3.cell? ⟨w.heap.size,2,none⟩=some (.int .i64 lo):=(kf.cell 2).trans rfl
              go_wp2_with fail
              refine (readLines_is HRL.out _ HA.out HC.out HT.out).mono ?_
              have hBX:=Below.refl u3.heap.size u3
              rintro e u4 ⟨B4,m4,d4,Es4,rfl,hE4,hm4,hO4,hb⟩
              clear c0 c1 c2
              replace HA:=Lib.hid (HA.out.below hb)
              replace HO:=Lib.hid (HO.out.below hb)
              replace HT:=Lib.hid (HT.out.below hb)
              replace HB:=Lib.hid (below_chain HB.out hb HB.out.size)
              replace kf:=kf.below hb kf.lt
              replace hBX:=below_chain hBX hb hBX.size
              have HO4:=Lib.hid (hO4.oprs hm4)
              have HSM:=Lib.hid (sameOps_is (show ogs Es4=ogs Es from hE4) B4 m4 d4 B m d _ HO4.out HO.out)
              clear hE4 hm4 hO4 hb HO4
              go_wp2_with fail
              refine HSM.out.mono ?_
              rintro e V ⟨rfl,hb⟩
              replace HA:=Lib.hid (HA.out.below hb)
              replace HO:=Lib.hid (HO.out.below hb)
              replace HT:=Lib.hid (HT.out.below hb)
              replace HB:=Lib.hid (below_chain HB.out hb HB.out.size)
              replace kf:=kf.below hb kf.lt
              replace hBX:=below_chain hBX hb hBX.size
              clear hb
              go_wp2_with fail
              go_meet
              case rel=>exact ⟨_,rfl,hBX⟩
            | false =>
              have hBX:=Below.refl u3.heap.size u3
              go_wp2_with fail
              go_meet
              case rel=>exact ⟨_,rfl,hBX⟩
          case rest =>
            obtain ⟨V,hV,hb⟩:=hcut
            subst hV
            replace HA:=Lib.hid (HA.out.below hb)
            replace HO:=Lib.hid (HO.out.below hb)
            replace HT:=Lib.hid (HT.out.below hb)
            replace HB:=Lib.hid (below_chain HB.out hb HB.out.size)
            replace kf:=kf.below hb kf.lt
            clear hb HS1 HE1
            have c0:V.cell? ⟨w.heap.size,0,none⟩=some (.slice A n c):=(kf.cell 0).trans rfl
            have c1:V.cell? ⟨w.heap.size,1,none⟩=some (.int .i64 re):=(kf.cell 1).trans rfl
            have c2:V.cell? ⟨w.heap.size,2,none⟩=some (.int .i64 lo):=(kf.cell 2).trans rfl
            go_wp2_with fail
            refine (signs_is HE2.out HS2.out d _ HA.out HC.out HO.out HM.out HFN.out).mono ?_
            rintro e u5 ⟨rfl,hb⟩
            clear c0 c1 c2
            replace HA:=Lib.hid (HA.out.below hb)
            replace HO:=Lib.hid (HO.out.below hb)
            replace HT:=Lib.hid (HT.out.below hb)
            replace HB:=Lib.hid (below_chain HB.out hb HB.out.size)
            replace kf:=kf.below hb kf.lt
            clear hb
            obtain ⟨x,hx⟩:∃ x,decide (E2=0∧S2.length≤8000)=x:=⟨_,rfl⟩
            have HX:=Lib.hid hx
            clear hx
            go_upto_region 9 with fail
            go_cut [68] (fun v wv=>v=.bool x∧wv=u5)
            case first =>
              by_cases q0:E2=0
              · subst q0
                by_cases q2:S2.length≤8000
                · have i1:(((bA S2).size:Nat):Int)≤8000:=by rw [bA_size]; omega
                  obtain rfl:x=true:=by rw [← HX.out]; simp [q2]
                  clear q2
                  go_wp2_with fail
                  go_meet
                  case rel=>exact ⟨rfl,rfl⟩
                · have i1:¬ (((bA S2).size:Nat):Int)≤8000:=by rw [bA_size]; omega
                  obtain rfl:x=false:=by rw [← HX.out]; simp [q2]
                  clear q2
                  go_wp2_with fail
                  go_meet
                  case rel=>exact ⟨rfl,rfl⟩
              · have q2:(E2 == 0)=false:=by simpa using q0
                obtain rfl:x=false:=by rw [← HX.out]; simp [q0]
                clear q0
                go_wp2_with fail
                go_meet
                case rel=>exact ⟨rfl,rfl⟩
            case rest =>
              obtain ⟨rfl,hV⟩:=hcut
              subst wc
              go_upto_if 68 with fail
              go_cut [6] (fun _ wv=>∃ V:World,V=wv∧Below u5.heap.size u5 V)
              case first =>
                cases x with
                | true =>
                  obtain ⟨q1,q2⟩:=of_decide_eq_true HX.out
                  clear HX
                  subst q1
                  have hRL:=rs_back HE2.out (by rw [HS2.out]; exact q2)
                  rw [HS2.out] at hRL
                  have HRL:=Lib.hid hRL
                  clear hRL q2
                  have c0:u5.cell? ⟨w.heap.size,0,none⟩=some (.slice A n c):=(kf.cell 0).trans rfl
                  have c1:u5.cell? ⟨w.heap.size,1,none⟩=some (.int .i64 re):=(kf.cell 1).trans rfl
                  have c2:u5.cell? ⟨w.heap.size,2,none⟩=some (.int .i64 lo):=(kf.cell 2).trans rfl
                  go_wp2_with fail
                  refine (readSigns_is HRL.out.1 HRL.out.2 _ HA.out HC.out HT.out).mono ?_
                  have hBX:=Below.refl u5.heap.size u5
                  rintro e u6 ⟨B4,m4,d4,Es4,rfl,hE4,hm4,hO4,hb⟩
                  clear c0 c1 c2
                  replace HA:=Lib.hid (HA.out.below hb)
                  replace HO:=Lib.hid (HO.out.below hb)
                  replace HT:=Lib.hid (HT.out.below hb)
                  replace HB:=Lib.hid (below_chain HB.out hb HB.out.size)
                  replace kf:=kf.below hb kf.lt
                  replace hBX:=below_chain hBX hb hBX.size
                  have HO4:=Lib.hid (hO4.oprs hm4)
                  have HSM:=Lib.hid (sameOps_is (show ogs Es4=ogs Es from hE4) B4 m4 d4 B m d _ HO4.out HO.out)
                  clear hE4 hm4 hO4 hb HO4
                  go_wp2_with fail
                  refine HSM.out.mono ?_
                  rintro e V ⟨rfl,hb⟩
                  replace HA:=Lib.hid (HA.out.below hb)
                  replace HO:=Lib.hid (HO.out.below hb)
                  replace HT:=Lib.hid (HT.out.below hb)
                  replace HB:=Lib.hid (below_chain HB.out hb HB.out.size)
                  replace kf:=kf.below hb kf.lt
                  replace hBX:=below_chain hBX hb hBX.size
                  clear hb
                  go_wp2_with fail
                  go_meet
                  case rel=>exact ⟨_,rfl,hBX⟩
                | false =>
                  have hBX:=Below.refl u5.heap.size u5
                  go_wp2_with fail
                  go_meet
                  case rel=>exact ⟨_,rfl,hBX⟩
              case rest =>
                obtain ⟨V,hV,hb⟩:=hcut
                subst hV
                replace HA:=Lib.hid (HA.out.below hb)
                replace HO:=Lib.hid (HO.out.below hb)
                replace HT:=Lib.hid (HT.out.below hb)
                replace HB:=Lib.hid (below_chain HB.out hb HB.out.size)
                replace kf:=kf.below hb kf.lt
                clear hb
                go_wp2_with fail
                refine (law_known _ HT.out).mono ?_
                rintro e v1 ⟨rfl,hb⟩
                replace HA:=Lib.hid (HA.out.below hb)
                replace HO:=Lib.hid (HO.out.below hb)
                replace HT:=Lib.hid (HT.out.below hb)
                replace HB:=Lib.hid (below_chain HB.out hb HB.out.size)
                replace kf:=kf.below hb kf.lt
                clear hb
                go_wp2_with fail
                go_ret
                exact ⟨rfl,HB.out⟩
    | false =>
        have HS:=Lib.hid (show decide (n≤60)=true by simpa using h60)
        have HFT:=Lib.hid hft
        clear hft h60
        go_enter Tryz.func7,Tryz.ntmps7
        have hba:=(Below.refl w.heap.size w).alloc (Nat.le_refl _) (.cells #[.slice A n c,.int .i64 re,.int .i64 lo] 24)
        replace HA:=Lib.hid (HA.out.below hba)
        replace HO:=Lib.hid (HO.out.below hba)
        replace HT:=Lib.hid (HT.out.below hba)
        replace HB:=Lib.hid (below_chain HB.out hba HB.out.size)
        have kf:=Blk.new w 24 #[.slice A n c,.int .i64 re,.int .i64 lo]
        clear hba
        go_upto_region 1 with fail
        generalize w.alloc (.cells #[.slice A n c,.int .i64 re,.int .i64 lo] 24)=X at HA HO HT HB kf ⊢
        have c0:X.cell? ⟨w.heap.size,0,none⟩=some (.slice A n c):=(kf.cell 0).trans rfl
        have c1:X.cell? ⟨w.heap.size,1,none⟩=some (.int .i64 re):=(kf.cell 1).trans rfl
        have c2:X.cell? ⟨w.heap.size,2,none⟩=some (.int .i64 lo):=(kf.cell 2).trans rfl
        go_wp2_with fail
        refine (lshort_is HS.out A c re lo _).mono ?_
        rintro e u1 ⟨rfl,hb⟩
        clear c0 c1 c2
        replace HA:=Lib.hid (HA.out.below hb)
        replace HO:=Lib.hid (HO.out.below hb)
        replace HT:=Lib.hid (HT.out.below hb)
        replace HB:=Lib.hid (below_chain HB.out hb HB.out.size)
        replace kf:=kf.below hb kf.lt
        clear hb
        have c0:u1.cell? ⟨w.heap.size,0,none⟩=some (.slice A n c):=(kf.cell 0).trans rfl
        have c1:u1.cell? ⟨w.heap.size,1,none⟩=some (.int .i64 re):=(kf.cell 1).trans rfl
        have c2:u1.cell? ⟨w.heap.size,2,none⟩=some (.int .i64 lo):=(kf.cell 2).trans rfl
        go_wp2_with fail
        refine (lfit_is (most:=8) HFT.out B m d _ HO.out (by omega)).mono ?_
        rintro e u2 ⟨rfl,hb⟩
        clear c0 c1 c2
        replace HA:=Lib.hid (HA.out.below hb)
        replace HO:=Lib.hid (HO.out.below hb)
        replace HT:=Lib.hid (HT.out.below hb)
        replace HB:=Lib.hid (below_chain HB.out hb HB.out.size)
        replace kf:=kf.below hb kf.lt
        clear hb
        go_wp2_with fail
        refine (law_known _ HT.out).mono ?_
        rintro e v1 ⟨rfl,hb⟩
        replace HA:=Lib.hid (HA.out.below hb)
        replace HO:=Lib.hid (HO.out.below hb)
        replace HT:=Lib.hid (HT.out.below hb)
        replace HB:=Lib.hid (below_chain HB.out hb HB.out.size)
        replace kf:=kf.below hb kf.lt
        clear hb
        go_wp2_with fail
        go_ret
        exact ⟨rfl,HB.out⟩
  · have hs:decide (n≤60)=false:=by simpa using h60
    have HS:=Lib.hid hs
    clear hs h60
    go_enter Tryz.func7,Tryz.ntmps7
    have hba:=(Below.refl w.heap.size w).alloc (Nat.le_refl _) (.cells #[.slice A n c,.int .i64 re,.int .i64 lo] 24)
    replace HA:=Lib.hid (HA.out.below hba)
    replace HO:=Lib.hid (HO.out.below hba)
    replace HT:=Lib.hid (HT.out.below hba)
    replace HB:=Lib.hid (below_chain HB.out hba HB.out.size)
    have kf:=Blk.new w 24 #[.slice A n c,.int .i64 re,.int .i64 lo]
    clear hba
    go_upto_region 1 with fail
    generalize w.alloc (.cells #[.slice A n c,.int .i64 re,.int .i64 lo] 24)=X at HA HO HT HB kf ⊢
    have c0:X.cell? ⟨w.heap.size,0,none⟩=some (.slice A n c):=(kf.cell 0).trans rfl
    have c1:X.cell? ⟨w.heap.size,1,none⟩=some (.int .i64 re):=(kf.cell 1).trans rfl
    have c2:X.cell? ⟨w.heap.size,2,none⟩=some (.int .i64 lo):=(kf.cell 2).trans rfl
    go_wp2_with fail
    refine (lshort_is HS.out A c re lo _).mono ?_
    rintro e u1 ⟨rfl,hb⟩
    clear c0 c1 c2
    replace HA:=Lib.hid (HA.out.below hb)
    replace HO:=Lib.hid (HO.out.below hb)
    replace HT:=Lib.hid (HT.out.below hb)
    replace HB:=Lib.hid (below_chain HB.out hb HB.out.size)
    replace kf:=kf.below hb kf.lt
    clear hb
    go_wp2_with fail
    refine (law_known _ HT.out).mono ?_
    rintro e v1 ⟨rfl,hb⟩
    replace HA:=Lib.hid (HA.out.below hb)
    replace HO:=Lib.hid (HO.out.below hb)
    replace HT:=Lib.hid (HT.out.below hb)
    replace HB:=Lib.hid (below_chain HB.out hb HB.out.size)
    replace kf:=kf.below hb kf.lt
    clear hb
    go_wp2_with fail
    go_ret
    exact ⟨rfl,HB.out⟩
end Go.Proofs.YtlmdfmnbcndhoaaGreatDoor

namespace Go.Proofs.YtlmdfmnbcndhoaaGreatDoor
open Go.ChangeShapes Go.WideShapes Go.ChangeAt Go.WideElems Go.RowKit

section
variable {H:Type} {enc:TypeId × Value→H} {P:Program}
theorem trodAll_stays (hl:laidOutB P=true) {W W':World} {sp':Nat→Bool} (hb:Below W.heap.size W W'):∀ (ts:List TypeId) (vs:List Value) (ds:List (DataW H)) (ps:List MemPlace),
    (∀ t∈ts,P.readableRec t=true∧t < P.types.size)→DataW.TrodAll enc P W 0 (fun _=>true) true ts vs ds ps→(∀ p∈ps,p.block < W.heap.size)→(∀ p∈ps,sp' p.block=true)→DataW.TrodAll enc P W' 0 sp' true ts vs ds ps
  | [],[],[],_,_,h,_,_=>h
  | [],[],_ :: _,_,_,h,_,_=>h.elim
  | [],_ :: _,_,_,_,h,_,_=>h.elim
  | _ :: _,[],_,_,_,h,_,_=>h.elim
  | _ :: _,_ :: _,[],_,_,h,_,_=>h.elim
  | t :: ts,v :: vs,d :: ds,ps,ht,h,hlt,hsp=>by
    obtain ⟨p,q,h1,h2,rfl⟩:=h
    refine ⟨p,q,?_,?_,rfl⟩
    · exact Trod_stays hl (ht t (by simp)).1 (ht t (by simp)).2 h1 (fun x hx=>hb.same (hlt x (by simp [hx]))) (fun x hx=>hsp x (by simp [hx]))
    · exact trodAll_stays hl hb ts vs ds q (fun t' h'=>ht t' (by simp [h'])) h2 (fun x hx=>hlt x (by simp [hx])) (fun x hx=>hsp x (by simp [hx]))
/-- The call returns a truth value and only makes new memory: what its specification's law says of results and arguments is all. -/
theorem post_of_below {f:Func} {s:ChangeSpec} {apart fresh handsOn again:Bool} {W W':World} {args:Array Value} {v:Value} {ds:List (DataW H)} {before:List MemPlace} (hl:laidOutB P=true) (hb:Below W.heap.size W W')
    (hvs:s.vars=[]) (hfn:(s.fn H ds).args=ds) (hfv:(s.fn H ds).vars=[])
    (hts:∀ t∈f.params.toList,P.readableRec t=true∧t < P.types.size)
    (hW:DataW.Whole enc P f.params.toList s.vars apart W args.toList ds [] before)
    (hres:∀ (b:Nat) (sp:Nat→Bool) (hd:Bool),DataW.TrodAll enc P W' b sp hd f.resultTypes.toList (v.resultList f.resultTypes.size) (s.fn H ds).results [])
    (hok:∀ (j:Nat) (t:TypeId) (r:Value),f.resultTypes[j]? = some t→(v.resultList f.resultTypes.size)[j]? = some r→Value.okWide P W' .any 0 t r) :
    s.post enc P f apart fresh handsOn again W args v W':=by
  have hlt:=hW.lt
  have hW2:=hW
  obtain ⟨pa,pv,hA,hV,rfl,hz,hn⟩:=hW2
  rw [hvs] at hV
  obtain rfl:pv=[]:=hV
  simp only [List.append_nil] at *
  have args_:∀ sp:Nat→Bool,(∀ p∈pa,sp p.block=true)→DataW.TrodAll enc P W' 0 sp true f.params.toList args.toList (s.fn H (ds++[])).args pa:=fun sp hsp=>by
    rw [List.append_nil,hfn]
    exact trodAll_stays hl hb _ _ _ _ hts hA hlt hsp
  have vars_:∀ sp:Nat→Bool,DataW.TrodVars enc P W' sp s.vars (s.fn H (ds++[])).vars []:=fun sp=>by
    rw [List.append_nil,hfv,hvs]
    rfl
  refine ⟨ds,[],pa,[],pa,[],hW,by rw [List.append_nil]; exact hres _ _ _,args_ _ (fun p hp=>by simpa using hlt p hp),vars_ _,hb.frame _,fun _=>?_⟩
  refine ⟨hok,_,_,([]++pa)++[],⟨[]++pa,[],trodAll_append (args_ _ (fun _ _=>rfl)) (hres _ _ _),vars_ _,rfl,?_,?_⟩,?_⟩
  · intro b off hp
    have hp':MemPlace.cell b off∈pa:=by simpa using hp
    rw [hb.frozen (p:=⟨b,off,none⟩) (hlt _ hp')]
    exact hz b off hp'
  · intro ha
    simpa using hn ha
  · intro p hp _
    simpa using hp
end
end Go.Proofs.YtlmdfmnbcndhoaaGreatDoor
