/-
  NotesOpen returns true. Conditions: the frame and the code's letters read; the library's tables stand.
-/
import Derived.Test.YtlmdfmnbcndhoaaGreatDoorOn44
import Derived.Test.YtlmdfmnbcndhoaaGreatDoorOn35
import Derived.Test.YtlmdfmnbcndhoaaGreatDoorOn11
import Derived.Deep.DeepCutAuto
namespace Go.Proofs.YtlmdfmnbcndhoaaGreatDoor
open Go.RowKit
theorem below_allocO {B:Nat} {a b:World} {o:Obj} (hB:B≤b.heap.size) (h:Below B a b):Below B a (b.alloc o):=h.alloc hB o
/-- What reading the sequence of a posed code with few crossings gives. -/
theorem open_facts {F:List Fg} {re lo K:Int} {L:List Lt} (h:posedF F re lo K L=true) (hc:cN L L.length / 2≤12) :
  ∃Cs,rqR F re lo (seqF F L)=(Cs,0)∧slN F re lo K L=Cs.length∧slE F re lo K L=0∧K=(F.length:Int)∧Cs.length≤4096 ∧
   (∀M∈Cs,posedF F re lo (F.length:Int) M=true∧seqF F M=seqF F L∧M.map unS=L.map unS)∧L∈Cs∧(0 < cN L L.length / 2∨Cs.length=1):=by
 have he:=posedE_iff.2 h
 have hK:=(posedE_zero he).2.2.2.1
 have hse:slE F re lo K L=0:=by unfold slE;rw [if_neg (by rw [he];simp),if_neg (by omega)]
 by_cases h0:L.length=0
 ·obtain rfl:L=[]:=List.length_eq_zero_iff.1 h0
  have hfr:=frB_iff.2 (posedE_zero he).2.1
  refine ⟨[[]],?_,?_,hse,hK,by simp,fun M hM=>?_,by simp,.inr rfl⟩
  ·rw [show seqF F []=bareW from rfl];exact bare_rq hfr
  ·unfold slN;rw [hse,if_neg (by simp)];rfl
  ·obtain rfl:=List.mem_singleton.1 hM
   rw [←hK]
   exact ⟨h,rfl,rfl⟩
 ·obtain ⟨r1,r2⟩:=(rq_posed h (by omega)).2 hc
  obtain ⟨pp,hf,_,hn,hl⟩:=posP_of h (by omega)
  have hlen:=codesTo_len F re lo (cN L L.length / 2) L (2 ^ (cN L L.length / 2))
  have h2:2 ^ (cN L L.length / 2)≤2 ^ 12:=Nat.pow_le_pow_right (by omega) hc
  refine ⟨_,r1,?_,hse,hK,by omega,fun M hM=>⟨(mem_codes hM).1,(codes_same hl hM).2,(codes_same hl hM).1⟩,r2,?_⟩
  ·unfold slN;rw [hse,if_neg (by simp),if_neg h0]
  ·rcases Nat.eq_zero_or_pos (cN L L.length / 2) with hz | hz
   ·right
    rw [hz] at r2 hlen ⊢
    have:0 < (codesTo F re lo 0 L (2 ^ 0)).length:=List.length_pos_of_mem r2
    simp only [Nat.pow_zero] at hlen this ⊢
    omega
   ·exact .inl hz
theorem nseq_is {A:Option Addr} {n c:Nat} {F:List Fg} {re lo K:Int} {B:Option Addr} {m d:Nat} {L:List Lt} {E:Int} {S:List UInt8} (hE:posedE F re lo K L=E) (hS:sqS F re lo K L=S) (w:World) (hA:Fgs w A n F) (hc:n≤c) (hB:Lets w B m L) (ht:Tabs w) :
  Calls Tryz.prog 33 #[frV A n c re lo,.agg #[.int .i64 K,.slice B m d]] w fun e w'=>e=.returned (.tuple #[.string (bA S),.int .i64 E])∧Below w.heap.size w w':=by
 subst hE;subst hS;exact notes_Sequence A n c F re lo K B m d L w hA hc hB ht
theorem nsign_is {A:Option Addr} {n c:Nat} {F:List Fg} {re lo K:Int} {B:Option Addr} {m d:Nat} {L:List Lt} {E:Int} {x:Nat} (hE:slE F re lo K L=E) (hS:slN F re lo K L=x) (w:World) (hA:Fgs w A n F) (hc:n≤c) (hB:Lets w B m L) :
  Calls Tryz.prog 44 #[frV A n c re lo,.agg #[.int .i64 K,.slice B m d]] w fun e w'=>e=.returned (.tuple #[.int .i64 (x:Int),.int .i64 E])∧Below w.heap.size w w':=by
 subst hE;subst hS;exact notes_Signless A n c F re lo K B m d L w hA hc hB
theorem nrseq_is {A:Option Addr} {n c:Nat} {F:List Fg} {re lo:Int} {S:List UInt8} {Cs:List (List Lt)} {E:Int} (h:rqR F re lo S=(Cs,E)) (w:World) (hA:Fgs w A n F) (hc:n≤c) (ht:Tabs w) :
  Calls Tryz.prog 37 #[frV A n c re lo,.string (bA S)] w (RqErr w (n:Int) Cs E):=by
 have:=notes_ReadSequence ⟨A,n,c,F,re,lo⟩ S w hA hc ht
 simp only at this
 rw [h] at this
 exact this
/-- A code of the list. -/
theorem code_at {w:World} {base:Nat} {K:Int} {B:Option Addr} {m d:Nat} {Es:List Ce} {i:Nat} {e:Ce} (h:CodesOwn w base K B m d Es) (hi:Es[i]? = some e) :
  ∃g o,B=some ⟨g,o,none⟩∧g < w.heap.size∧w.cell? ⟨g,o+i*2,none⟩=some (.int .i64 K)∧w.cell? ⟨g,o+i*2+1,none⟩=some (.slice e.A e.n e.c)∧Lets w e.A e.n e.L:=by
 have hlt:i < m:=by rw [←h.len];exact (List.getElem?_eq_some_iff.1 hi).1
 obtain ⟨g,o,rfl,_,hg⟩:=h.row.form (by omega)
 have q0:=h.row.cell (j:=i*2+0) (by rw [flat_at (encC K) 2 (fun _=>rfl) Es i 0 e hi (by omega)];rfl)
 have q1:=h.row.cell (j:=i*2+1) (by rw [flat_at (encC K) 2 (fun _=>rfl) Es i 1 e hi (by omega)];rfl)
 exact ⟨g,o,rfl,hg,q0,q1,(h.ok e (List.mem_of_getElem? hi)).1⟩
/-- Whether the code was among the first ones. -/
def metB (Cs:List (List Lt)) (L:List Lt) (i:Nat):Bool:=decide (L∈Cs.take i)
theorem metB_succ {Cs:List (List Lt)} {L M:List Lt} {i:Nat} (h:Cs[i]? = some M):metB Cs L (i+1)=(metB Cs L i||decide (L=M)):=by
 unfold metB
 rw [List.take_add_one,h,Bool.eq_iff_iff]
 simp
def samB (L M:List Lt) (k:Nat):Bool:=decide (L.take k=M.take k)
theorem samB_succ {L M:List Lt} {k:Nat} (h1:k < L.length) (h2:k < M.length):samB L M (k+1)=(samB L M k&&ltB (la L k) (la M k)):=by
 unfold samB
 rw [List.take_add_one,List.take_add_one,show L[k]? = some (la L k) by unfold la;rw [List.getElem?_eq_getElem h1];rfl,show M[k]? = some (la M k) by unfold la;rw [List.getElem?_eq_getElem h2];rfl,Bool.eq_iff_iff]
 rw [decide_eq_true_eq,Bool.and_eq_true,decide_eq_true_eq,ltB_iff]
 simp only [Option.toList_some]
 constructor
 ·intro e
  have:=List.append_inj' e rfl
  exact ⟨this.1,by simpa using this.2⟩
 ·rintro ⟨e1,e2⟩
  rw [e1,e2]
set_option maxRecDepth 100000 in
set_option maxHeartbeats 25600000 in
theorem notesOpen_any (A:Option Addr) (n c:Nat) (F:List Fg) (re lo:Int) (K:Int) (B:Option Addr) (m d:Nat) (L:List Lt) (w:World) (hA:Fgs w A n F) (hc:n≤c) (hB:Lets w B m L) (ht:Tabs w) :
  Calls Tryz.prog 12 #[frV A n c re lo,.agg #[.int .i64 K,.slice B m d]] w fun e w'=>e=.returned (.bool true)∧Below w.heap.size w w':=by
 have HFL:=Lib.hid hA.len
 have HLN:=Lib.hid hB.len
 obtain ⟨cr,hcr⟩:∃c,cN L m / 2=c:=⟨_,rfl⟩
 have HCR:=Lib.hid hcr
 have HA:=Lib.hid hA
 have HL:=Lib.hid hB
 have HT:=Lib.hid ht
 have HC:=Lib.hid hc
 have HB:=Lib.hid (Below.refl w.heap.size w)
 clear hcr hA hB hc ht
 by_cases h60:n≤60
 ·by_cases hm40:m≤40
  ·by_cases hc6:cr≤6
   ·have HS:=Lib.hid (show decide (n≤60)=true by simpa using h60)
    have k1:¬(40:Int) < (m:Int):=by omega
    have k2:¬(6:Int) < (cr:Int):=by omega
    have HM40:=Lib.hid hm40
    have HC6:=Lib.hid hc6
    obtain ⟨E,hE⟩:∃E,posedE F re lo K L=E:=⟨_,rfl⟩
    obtain ⟨S,hS⟩:∃S,sqS F re lo K L=S:=⟨_,rfl⟩
    obtain ⟨E1,hE1⟩:∃E,slE F re lo K L=E:=⟨_,rfl⟩
    obtain ⟨q,hq⟩:∃x,slN F re lo K L=x:=⟨_,rfl⟩
    have HE:=Lib.hid hE
    have HS1:=Lib.hid hS
    have HE1:=Lib.hid hE1
    have HQ:=Lib.hid hq
    clear h60 hm40 hc6 hE hS hE1 hq
    go_enter Tryz.func12,Tryz.ntmps12
    have hba:Below w.heap.size w ((w.alloc (.cells #[.slice A n c,.int .i64 re,.int .i64 lo] 24)).alloc (.cells #[.int .i64 K,.slice B m d] 55)):=((Below.refl _ _).alloc (Nat.le_refl _) _).alloc (by simp) _
    replace HA:=Lib.hid (HA.out.below hba)
    replace HL:=Lib.hid (HL.out.below hba)
    replace HT:=Lib.hid (HT.out.below hba)
    replace HB:=Lib.hid (below_chain HB.out hba HB.out.size)
    have kf:=(Blk.new w 24 #[.slice A n c,.int .i64 re,.int .i64 lo]).alloc (.cells #[.int .i64 K,.slice B m d] 55)
    have ks:Blk ((w.alloc (.cells #[.slice A n c,.int .i64 re,.int .i64 lo] 24)).alloc (.cells #[.int .i64 K,.slice B m d] 55)) (w.heap.size+1) 55 #[.int .i64 K,.slice B m d]:=heap_alloc2_new w _ _
    clear hba
    go_upto_region 1 with fail
    generalize (w.alloc (.cells #[.slice A n c,.int .i64 re,.int .i64 lo] 24)).alloc (.cells #[.int .i64 K,.slice B m d] 55)=X at HA HL HT HB kf ks ⊢
    have c0:X.cell? ⟨w.heap.size,0,none⟩=some (.slice A n c):=(kf.cell 0).trans rfl
    have c1:X.cell? ⟨w.heap.size,1,none⟩=some (.int .i64 re):=(kf.cell 1).trans rfl
    have c2:X.cell? ⟨w.heap.size,2,none⟩=some (.int .i64 lo):=(kf.cell 2).trans rfl
    have d0:X.cell? ⟨w.heap.size+1,0,none⟩=some (.int .i64 K):=(ks.cell 0).trans rfl
    have d1:X.cell? ⟨w.heap.size+1,1,none⟩=some (.slice B m d):=(ks.cell 1).trans rfl
    go_wp2_with fail
    refine (lshort_is HS.out A c re lo _).mono ?_
    rintro e u8 ⟨rfl,hb⟩
    clear c0 c1 c2 d0 d1
    replace HA:=Lib.hid (HA.out.below hb)
    replace HL:=Lib.hid (HL.out.below hb)
    replace HT:=Lib.hid (HT.out.below hb)
    replace HB:=Lib.hid (below_chain HB.out hb HB.out.size)
    replace kf:=kf.below hb kf.lt
    replace ks:=ks.below hb ks.lt
    clear hb
    have c0:u8.cell? ⟨w.heap.size,0,none⟩=some (.slice A n c):=(kf.cell 0).trans rfl
    have c1:u8.cell? ⟨w.heap.size,1,none⟩=some (.int .i64 re):=(kf.cell 1).trans rfl
    have c2:u8.cell? ⟨w.heap.size,2,none⟩=some (.int .i64 lo):=(kf.cell 2).trans rfl
    have d0:u8.cell? ⟨w.heap.size+1,0,none⟩=some (.int .i64 K):=(ks.cell 0).trans rfl
    have d1:u8.cell? ⟨w.heap.size+1,1,none⟩=some (.slice B m d):=(ks.cell 1).trans rfl
    go_wp2_with fail
    refine (crossings_is HCR.out _ HL.out).mono ?_
    rintro e u9 ⟨rfl,hb⟩
    clear c0 c1 c2 d0 d1
    replace HA:=Lib.hid (HA.out.below hb)
    replace HL:=Lib.hid (HL.out.below hb)
    replace HT:=Lib.hid (HT.out.below hb)
    replace HB:=Lib.hid (below_chain HB.out hb HB.out.size)
    replace kf:=kf.below hb kf.lt
    replace ks:=ks.below hb ks.lt
    clear hb
    have c0:u9.cell? ⟨w.heap.size,0,none⟩=some (.slice A n c):=(kf.cell 0).trans rfl
    have c1:u9.cell? ⟨w.heap.size,1,none⟩=some (.int .i64 re):=(kf.cell 1).trans rfl
    have c2:u9.cell? ⟨w.heap.size,2,none⟩=some (.int .i64 lo):=(kf.cell 2).trans rfl
    have d0:u9.cell? ⟨w.heap.size+1,0,none⟩=some (.int .i64 K):=(ks.cell 0).trans rfl
    have d1:u9.cell? ⟨w.heap.size+1,1,none⟩=some (.slice B m d):=(ks.cell 1).trans rfl
    go_wp2_with fail
    refine (nseq_is HE.out HS1.out _ HA.out HC.out HL.out HT.out).mono ?_
    rintro e u10 ⟨rfl,hb⟩
    clear c0 c1 c2 d0 d1
    replace HA:=Lib.hid (HA.out.below hb)
    replace HL:=Lib.hid (HL.out.below hb)
    replace HT:=Lib.hid (HT.out.below hb)
    replace HB:=Lib.hid (below_chain HB.out hb HB.out.size)
    replace kf:=kf.below hb kf.lt
    replace ks:=ks.below hb ks.lt
    clear hb
    have c0:u10.cell? ⟨w.heap.size,0,none⟩=some (.slice A n c):=(kf.cell 0).trans rfl
    have c1:u10.cell? ⟨w.heap.size,1,none⟩=some (.int .i64 re):=(kf.cell 1).trans rfl
    have c2:u10.cell? ⟨w.heap.size,2,none⟩=some (.int .i64 lo):=(kf.cell 2).trans rfl
    have d0:u10.cell? ⟨w.heap.size+1,0,none⟩=some (.int .i64 K):=(ks.cell 0).trans rfl
    have d1:u10.cell? ⟨w.heap.size+1,1,none⟩=some (.slice B m d):=(ks.cell 1).trans rfl
    go_wp2_with fail
    refine (nsign_is HE1.out HQ.out _ HA.out HC.out HL.out).mono ?_
    rintro e u11 ⟨rfl,hb⟩
    clear c0 c1 c2 d0 d1
    replace HA:=Lib.hid (HA.out.below hb)
    replace HL:=Lib.hid (HL.out.below hb)
    replace HT:=Lib.hid (HT.out.below hb)
    replace HB:=Lib.hid (below_chain HB.out hb HB.out.size)
    replace kf:=kf.below hb kf.lt
    replace ks:=ks.below hb ks.lt
    clear hb
    by_cases h0:E=0
    ·subst h0
     have hpo:=posedE_iff.1 HE.out
     obtain ⟨Cs,hCs,hqC,hE10,hK,hq4,hall,hmem,hone⟩:=open_facts hpo (by rw [HLN.out,HCR.out];have:=HC6.out;omega)
     obtain rfl:E1=0:=by rw [←HE1.out];exact hE10
     obtain rfl:seqF F L=S:=by rw [←HS1.out];unfold sqS;rw [if_pos HE.out]
     obtain ⟨S,hS⟩:∃S,seqF F L=S:=⟨_,rfl⟩
     have HQC:=Lib.hid (HQ.out.symm.trans hqC)
     have HRQ:=Lib.hid (show rqR F re lo S=(Cs,0) by rw [←hS];exact hCs)
     have HALL:=Lib.hid (show ∀M∈Cs,posedE F re lo (n:Int) M=0∧sqS F re lo (n:Int) M=S∧M.map unS=L.map unS from fun M hM=>by
      obtain ⟨a1,a2,a3⟩:=hall M hM
      rw [HFL.out] at a1
      have a4:=posedE_iff.2 a1
      exact ⟨a4,by unfold sqS;rw [if_pos a4,a2,hS],a3⟩)
     have HMEM:=Lib.hid hmem
     have HONE:=Lib.hid (show 0 < cr∨Cs.length=1 by rw [HLN.out,HCR.out] at hone;exact hone)
     have HKN:=Lib.hid (show K=(n:Int) by rw [hK,HFL.out])
     have HQ4:=Lib.hid (show q≤4096 by rw [HQC.out];exact hq4)
     rw [hS]
     clear hpo hCs hqC hE10 hK hq4 hall hmem hone hS HE HS1 HE1 HQ
     have c0:u11.cell? ⟨w.heap.size,0,none⟩=some (.slice A n c):=(kf.cell 0).trans rfl
     have c1:u11.cell? ⟨w.heap.size,1,none⟩=some (.int .i64 re):=(kf.cell 1).trans rfl
     have c2:u11.cell? ⟨w.heap.size,2,none⟩=some (.int .i64 lo):=(kf.cell 2).trans rfl
     have d0:u11.cell? ⟨w.heap.size+1,0,none⟩=some (.int .i64 K):=(ks.cell 0).trans rfl
     have d1:u11.cell? ⟨w.heap.size+1,1,none⟩=some (.slice B m d):=(ks.cell 1).trans rfl
     go_wp2_with fail
     refine (nrseq_is HRQ.out _ HA.out HC.out HT.out).mono ?_
     rintro e u12 ⟨C5,m5,d5,Es,rfl,hEs,hm5,hO5,hb⟩
     clear c0 c1 c2 d0 d1
     replace HA:=Lib.hid (HA.out.below hb)
     replace HL:=Lib.hid (HL.out.below hb)
     replace HT:=Lib.hid (HT.out.below hb)
     replace HB:=Lib.hid (below_chain HB.out hb HB.out.size)
     replace kf:=kf.below hb kf.lt
     replace ks:=ks.below hb ks.lt
     have hql:q=m5:=by rw [HQC.out,←hEs,List.length_map,hO5.len]
     subst hql
     have HO5:=Lib.hid hO5
     have HES:=Lib.hid hEs
     have kq:((q:Int) != (q:Int))=false:=by simp
     clear hO5 hEs hm5 hb
     go_wp2_with fail
     go_loopw [11,12] (fun v11 v12 wr=>∃(i:Nat) (mb:Bool),i≤q∧v12=.int .i64 i∧v11=.bool mb∧Below u12.heap.size u12 wr∧Hid (mb=metB Cs L i)) (fun _ v12 _=>q-(intOf v12).toNat)
     case atStart=>exact ⟨0,false,Nat.zero_le _,rfl,rfl,Below.refl _ _,Lib.hid (by simp [metB])⟩
     case round =>
      obtain ⟨i,mb,hi,rfl,rfl,hbr,HMB⟩:=hrel
      have HBR:=Lib.hid hbr
      have hq9:q≤4096:=HQ4.out
      replace HA:=Lib.hid (HA.out.below hbr)
      replace HL:=Lib.hid (HL.out.below hbr)
      replace HT:=Lib.hid (HT.out.below hbr)
      replace HB:=Lib.hid (below_chain HB.out hbr HB.out.size)
      replace kf:=kf.below hbr kf.lt
      replace ks:=ks.below hbr ks.lt
      replace HO5:=Lib.hid (HO5.out.below hbr)
      clear hbr
      by_cases hlt:i < q
      ·have j0:(0:Int)≤(i:Int):=by omega
       have j1:(i:Int) < (q:Int):=by omega
       have hiE:i < Es.length:=by rw [HO5.out.len];exact hlt
       obtain ⟨e,he⟩:∃e,Es[i]? = some e:=⟨_,List.getElem?_eq_getElem hiE⟩
       obtain ⟨g,o,rfl,hg,y0,y1,hM⟩:=code_at HO5.out he
       have hCi:Cs[i]? = some e.L:=by rw [←HES.out,List.getElem?_map,he];rfl
       have hal:=HALL.out _ (List.mem_of_getElem? hCi)
       obtain ⟨M,eA,en,ec⟩:=e
       simp only at y0 y1 hM hCi hal
       have hml:M.length=m:=by rw [←HLN.out];simpa using congrArg List.length hal.2.2
       obtain rfl:en=m:=by rw [←hM.len,hml]
       have HY:=Lib.hid (show g < wr.heap.size∧wr.cell? ⟨g,o+i*2,none⟩=some (.int .i64 (n:Int))∧wr.cell? ⟨g,o+i*2+1,none⟩=some (.slice eA en ec) from ⟨hg,y0,y1⟩)
       have HM:=Lib.hid hM
       have HML:=Lib.hid hml
       have HMS:=Lib.hid (metB_succ (L:=L) hCi)
       have HAL:=Lib.hid hal
       have HSAME:=Lib.hid (show ∀k,unS (la L k)=unS (la M k) from fun k=>by rw [←la_unS,←la_unS,hal.2.2])
       clear hiE he hg y0 y1 hM hCi hal hml
       go_upto_region 14 with fail
       go_cut [13,14] (fun v13 v14 wv=>v13=.string (bA S)∧v14=.int .i64 0∧∃V:World,V=wv∧Below wr.heap.size wr V)
       case first =>
        have k0:∀wx,Below wr.heap.size wr wx→(Below wr.heap.size wr wx∧wx.cell? ⟨w.heap.size,0,none⟩=some (.slice A n c)∧wx.cell? ⟨w.heap.size,1,none⟩=some (.int .i64 re)∧wx.cell? ⟨w.heap.size,2,none⟩=some (.int .i64 lo)∧wx.cell? ⟨g,o+i*2,none⟩=some (.int .i64 (n:Int))∧wx.cell? ⟨g,o+i*2+1,none⟩=some (.slice eA en ec)):=fun wx h=>⟨h,((kf.below h kf.lt).cell 0).trans rfl,((kf.below h kf.lt).cell 1).trans rfl,((kf.below h kf.lt).cell 2).trans rfl,(h.cell (p:=⟨g,o+i*2,none⟩) HY.out.1).trans HY.out.2.1,(h.cell (p:=⟨g,o+i*2+1,none⟩) HY.out.1).trans HY.out.2.2⟩
        have KP:=Lib.hid k0
        clear k0
        have gq0:=(KP.out wr (Below.refl _ _)).2.1
        have gq1:=(KP.out wr (Below.refl _ _)).2.2.1
        have gq2:=(KP.out wr (Below.refl _ _)).2.2.2.1
        have gq3:=(KP.out wr (Below.refl _ _)).2.2.2.2.1
        have gq4:=(KP.out wr (Below.refl _ _)).2.2.2.2.2
        first
         | go_region_held3 (fun wx=>Below wr.heap.size wr wx∧wx.cell? ⟨w.heap.size,0,none⟩=some (.slice A n c)∧wx.cell? ⟨w.heap.size,1,none⟩=some (.int .i64 re)∧wx.cell? ⟨w.heap.size,2,none⟩=some (.int .i64 lo)∧wx.cell? ⟨g,o+i*2,none⟩=some (.int .i64 (n:Int))∧wx.cell? ⟨g,o+i*2+1,none⟩=some (.slice eA en ec)) (first | assumption | exact KP.out _ (Below.refl _ _).drew | exact KP.out _ (below_chain (And.left (by assumption)) (by assumption) (Below.size (And.left (by assumption)))))
           (first
            | (go_at_call 33;refine (nseq_is HAL.out.1 HAL.out.2.1 _ (HA.out.below (And.left (by assumption))) HC.out (HM.out.below (And.left (by assumption))) (HT.out.below (And.left (by assumption)))).mono ?_;rintro e wd ⟨rfl,hbd⟩))
         | fail
        all_goals
         have hbf:=And.left (show Below wr.heap.size wr _∧_ by assumption)
         clear gq0 gq1 gq2 gq3 gq4
         go_wp2_with fail
         go_meet
         case rel=>exact ⟨rfl,rfl,_,rfl,hbf⟩
       case rest =>
        obtain ⟨rfl,rfl,V,hV,hb⟩:=hcut
        subst hV
        have HBV:=Lib.hid (below_chain HBR.out hb HBR.out.size)
        have HY:=Lib.hid (show g < V.heap.size∧V.cell? ⟨g,o+i*2,none⟩=some (.int .i64 (n:Int))∧V.cell? ⟨g,o+i*2+1,none⟩=some (.slice eA en ec) from ⟨Nat.lt_of_lt_of_le HY.out.1 hb.size,(hb.cell (p:=⟨g,o+i*2,none⟩) HY.out.1).trans HY.out.2.1,(hb.cell (p:=⟨g,o+i*2+1,none⟩) HY.out.1).trans HY.out.2.2⟩)
        replace HA:=Lib.hid (HA.out.below hb)
        replace HL:=Lib.hid (HL.out.below hb)
        replace HT:=Lib.hid (HT.out.below hb)
        replace HB:=Lib.hid (below_chain HB.out hb HB.out.size)
        replace kf:=kf.below hb kf.lt
        replace ks:=ks.below hb ks.lt
        replace HO5:=Lib.hid (HO5.out.below hb)
        have HM:=Lib.hid (HM.out.below hb)
        clear hb
        have kK:((n:Int) != K)=false:=by rw [HKN.out];simp
        have kL:((en:Int) != (en:Int))=false:=by simp
        have kS:((bA S).toList != (bA S).toList)=false:=by simp
        go_upto_region 15 with fail
        go_cut [119] (fun v wv=>v=.bool false∧∃U:World,U=wv∧Below V.heap.size V U)
        case first =>
         have y0:=HY.out.2.1
         have y1:=HY.out.2.2
         have d0:V.cell? ⟨w.heap.size+1,0,none⟩=some (.int .i64 K):=(ks.cell 0).trans rfl
         have d1:V.cell? ⟨w.heap.size+1,1,none⟩=some (.slice B en d):=(ks.cell 1).trans rfl
         go_quiet (fail)
         go_wp2_with fail
         go_meet
         case rel=>exact ⟨rfl,_,rfl,below_drewN (Below.refl _ _) _⟩
        case rest =>
         obtain ⟨rfl,U,hU,hb⟩:=hcut
         subst hU
         have HBU:=Lib.hid (below_chain HBV.out hb HBV.out.size)
         have HY:=Lib.hid (show g < U.heap.size∧U.cell? ⟨g,o+i*2,none⟩=some (.int .i64 (n:Int))∧U.cell? ⟨g,o+i*2+1,none⟩=some (.slice eA en ec) from ⟨Nat.lt_of_lt_of_le HY.out.1 hb.size,(hb.cell (p:=⟨g,o+i*2,none⟩) HY.out.1).trans HY.out.2.1,(hb.cell (p:=⟨g,o+i*2+1,none⟩) HY.out.1).trans HY.out.2.2⟩)
         replace HA:=Lib.hid (HA.out.below hb)
         replace HL:=Lib.hid (HL.out.below hb)
         replace HT:=Lib.hid (HT.out.below hb)
         replace HB:=Lib.hid (below_chain HB.out hb HB.out.size)
         replace kf:=kf.below hb kf.lt
         replace ks:=ks.below hb ks.lt
         replace HO5:=Lib.hid (HO5.out.below hb)
         have HM:=Lib.hid (HM.out.below hb)
         clear hb kK kL kS
         go_wp2_with fail
         go_loopw [15,16] (fun v15 v16 wr=>∃(k:Nat) (sb:Bool),k≤en∧v16=.int .i64 k∧v15=.bool sb∧Below U.heap.size U wr∧Hid (sb=samB L M k)) (fun _ v16 _=>en-(intOf v16).toNat)
         case atStart=>exact ⟨0,true,Nat.zero_le _,rfl,rfl,Below.refl _ _,Lib.hid (by simp [samB])⟩
         case round =>
          obtain ⟨k,sb,hk,rfl,rfl,hb,HSB⟩:=hrel
          have HBK:=Lib.hid hb
          have hm9:en≤40:=HM40.out
          have HY:=Lib.hid (show g < wr.heap.size∧wr.cell? ⟨g,o+i*2,none⟩=some (.int .i64 (n:Int))∧wr.cell? ⟨g,o+i*2+1,none⟩=some (.slice eA en ec) from ⟨Nat.lt_of_lt_of_le HY.out.1 hb.size,(hb.cell (p:=⟨g,o+i*2,none⟩) HY.out.1).trans HY.out.2.1,(hb.cell (p:=⟨g,o+i*2+1,none⟩) HY.out.1).trans HY.out.2.2⟩)
          replace HA:=Lib.hid (HA.out.below hb)
          replace HL:=Lib.hid (HL.out.below hb)
          replace HT:=Lib.hid (HT.out.below hb)
          replace HB:=Lib.hid (below_chain HB.out hb HB.out.size)
          replace kf:=kf.below hb kf.lt
          replace ks:=ks.below hb ks.lt
          replace HO5:=Lib.hid (HO5.out.below hb)
          have HM:=Lib.hid (HM.out.below hb)
          clear hb
          by_cases hkt:k < en
          ·have j2:(0:Int)≤(k:Int):=by omega
           have j3:(k:Int) < (en:Int):=by omega
           obtain ⟨gx,ox,rfl,hgx,hxx,_⟩:=HL.out.at_ hkt
           obtain ⟨gy,oy,rfl,hgy,hyy,_⟩:=HM.out.at_ hkt
           have HSS:=Lib.hid (samB_succ (L:=L) (M:=M) (k:=k) (by rw [HLN.out];exact hkt) (by rw [HML.out];exact hkt))
           have hun:=HSAME.out k
           generalize la L k=x at hxx HSS hun
           generalize la M k=y at hyy HSS hun
           obtain ⟨xk,xg,xr,xi,xs,xo⟩:=x
           obtain ⟨yk,yg,yr,yi,ys,yo⟩:=y
           simp only [unS,Lt.mk.injEq] at hun
           obtain ⟨rfl,rfl,rfl,rfl,_,rfl⟩:=hun
           obtain ⟨x0,x1,x2,x3,x4,x5⟩:=hxx
           obtain ⟨z0,z1,z2,z3,z4,z5⟩:=hyy
           simp only at x0 x1 x2 x3 x4 x5 z0 z1 z2 z3 z4 z5
           have HXC:=Lib.hid (show gx < wr.heap.size∧wr.cell? ⟨gx,ox+k*6,none⟩=some (.int .i64 xk)∧wr.cell? ⟨gx,ox+k*6+1,none⟩=some (.int .i64 xg)∧wr.cell? ⟨gx,ox+k*6+2,none⟩=some (.int .i64 xr)∧wr.cell? ⟨gx,ox+k*6+3,none⟩=some (.int .i64 xi)∧wr.cell? ⟨gx,ox+k*6+4,none⟩=some (.int .i64 xs)∧wr.cell? ⟨gx,ox+k*6+5,none⟩=some (.bool xo) from ⟨hgx,x0,x1,x2,x3,x4,x5⟩)
           have HYC:=Lib.hid (show gy < wr.heap.size∧wr.cell? ⟨gy,oy+k*6,none⟩=some (.int .i64 xk)∧wr.cell? ⟨gy,oy+k*6+1,none⟩=some (.int .i64 xg)∧wr.cell? ⟨gy,oy+k*6+2,none⟩=some (.int .i64 xr)∧wr.cell? ⟨gy,oy+k*6+3,none⟩=some (.int .i64 xi)∧wr.cell? ⟨gy,oy+k*6+4,none⟩=some (.int .i64 ys)∧wr.cell? ⟨gy,oy+k*6+5,none⟩=some (.bool xo) from ⟨hgy,z0,z1,z2,z3,z4,z5⟩)
           have HK:=Lib.hid (show wr.cell? ⟨w.heap.size+1,1,none⟩=some (.slice (some ⟨gx,ox,none⟩) en d) from (ks.cell 1).trans rfl)
           have hks:=ks.lt
           have HKS:=Lib.hid hks
           clear hgx hgy hks
           have HSA:=Lib.hid (show ∀wx,Below wr.heap.size wr wx→(Below wr.heap.size wr wx∧wx.cell? ⟨w.heap.size+1,1,none⟩=some (.slice (some ⟨gx,ox,none⟩) en d)∧wx.cell? ⟨g,o+i*2+1,none⟩=some (.slice (some ⟨gy,oy,none⟩) en ec)∧wx.cell? ⟨gx,ox+k*6,none⟩=some (.int .i64 xk)∧wx.cell? ⟨gx,ox+k*6+1,none⟩=some (.int .i64 xg)∧wx.cell? ⟨gx,ox+k*6+2,none⟩=some (.int .i64 xr)∧wx.cell? ⟨gx,ox+k*6+3,none⟩=some (.int .i64 xi)∧wx.cell? ⟨gx,ox+k*6+4,none⟩=some (.int .i64 xs)∧wx.cell? ⟨gx,ox+k*6+5,none⟩=some (.bool xo)∧wx.cell? ⟨gy,oy+k*6,none⟩=some (.int .i64 xk)∧wx.cell? ⟨gy,oy+k*6+1,none⟩=some (.int .i64 xg)∧wx.cell? ⟨gy,oy+k*6+2,none⟩=some (.int .i64 xr)∧wx.cell? ⟨gy,oy+k*6+3,none⟩=some (.int .i64 xi)∧wx.cell? ⟨gy,oy+k*6+4,none⟩=some (.int .i64 ys)∧wx.cell? ⟨gy,oy+k*6+5,none⟩=some (.bool xo)) from fun wx h=>⟨h,(h.cell (p:=⟨w.heap.size+1,1,none⟩) HKS.out).trans HK.out,(h.cell (p:=⟨g,o+i*2+1,none⟩) HY.out.1).trans HY.out.2.2,(h.cell (p:=⟨gx,ox+k*6,none⟩) HXC.out.1).trans HXC.out.2.1,(h.cell (p:=⟨gx,ox+k*6+1,none⟩) HXC.out.1).trans HXC.out.2.2.1,(h.cell (p:=⟨gx,ox+k*6+2,none⟩) HXC.out.1).trans HXC.out.2.2.2.1,(h.cell (p:=⟨gx,ox+k*6+3,none⟩) HXC.out.1).trans HXC.out.2.2.2.2.1,(h.cell (p:=⟨gx,ox+k*6+4,none⟩) HXC.out.1).trans HXC.out.2.2.2.2.2.1,(h.cell (p:=⟨gx,ox+k*6+5,none⟩) HXC.out.1).trans HXC.out.2.2.2.2.2.2,(h.cell (p:=⟨gy,oy+k*6,none⟩) HYC.out.1).trans HYC.out.2.1,(h.cell (p:=⟨gy,oy+k*6+1,none⟩) HYC.out.1).trans HYC.out.2.2.1,(h.cell (p:=⟨gy,oy+k*6+2,none⟩) HYC.out.1).trans HYC.out.2.2.2.1,(h.cell (p:=⟨gy,oy+k*6+3,none⟩) HYC.out.1).trans HYC.out.2.2.2.2.1,(h.cell (p:=⟨gy,oy+k*6+4,none⟩) HYC.out.1).trans HYC.out.2.2.2.2.2.1,(h.cell (p:=⟨gy,oy+k*6+5,none⟩) HYC.out.1).trans HYC.out.2.2.2.2.2.2⟩)
           have e1:=HK.out
           have e2:=HY.out.2.2
           go_upto_region 21 with fail
           go_cut [17,18] (fun v17 v18 wv=>∃(V:World) (b17 b18:Nat),V=wv∧v17=.pointer (some ⟨b17,0,none⟩)∧v18=.pointer (some ⟨b18,0,none⟩)∧b17≠b18∧wr.heap.size≤b17∧wr.heap.size≤b18∧Blk V b17 76 #[.int .i64 xk,.int .i64 xg,.int .i64 xr,.int .i64 xi,.int .i64 xs,.bool xo]∧Blk V b18 76 #[.int .i64 xk,.int .i64 xg,.int .i64 xr,.int .i64 xi,.int .i64 ys,.bool xo]∧Below wr.heap.size wr V)
           case first =>
            go_region_held3 (fun wx=>Below wr.heap.size wr wx∧wx.cell? ⟨w.heap.size+1,1,none⟩=some (.slice (some ⟨gx,ox,none⟩) en d)∧wx.cell? ⟨g,o+i*2+1,none⟩=some (.slice (some ⟨gy,oy,none⟩) en ec)∧wx.cell? ⟨gx,ox+k*6,none⟩=some (.int .i64 xk)∧wx.cell? ⟨gx,ox+k*6+1,none⟩=some (.int .i64 xg)∧wx.cell? ⟨gx,ox+k*6+2,none⟩=some (.int .i64 xr)∧wx.cell? ⟨gx,ox+k*6+3,none⟩=some (.int .i64 xi)∧wx.cell? ⟨gx,ox+k*6+4,none⟩=some (.int .i64 xs)∧wx.cell? ⟨gx,ox+k*6+5,none⟩=some (.bool xo)∧wx.cell? ⟨gy,oy+k*6,none⟩=some (.int .i64 xk)∧wx.cell? ⟨gy,oy+k*6+1,none⟩=some (.int .i64 xg)∧wx.cell? ⟨gy,oy+k*6+2,none⟩=some (.int .i64 xr)∧wx.cell? ⟨gy,oy+k*6+3,none⟩=some (.int .i64 xi)∧wx.cell? ⟨gy,oy+k*6+4,none⟩=some (.int .i64 ys)∧wx.cell? ⟨gy,oy+k*6+5,none⟩=some (.bool xo))
             (first | (refine HSA.out _ ?_;repeat (first | with_reducible exact Below.refl _ _ | with_reducible apply Below.drew | ((with_reducible refine below_allocO ?_ ?_);focus (first | (simp;done) | (simp;omega))))))
             (fail)
            all_goals
             go_wp2_with fail
             go_meet
            case rel=>exact ⟨_,wr.heap.size,wr.heap.size+1,rfl,rfl,rfl,by omega,by omega,by omega,(Blk.new wr _ _).alloc _,heap_alloc2_new wr _ _,(((Below.refl _ _).alloc (Nat.le_refl _) _).alloc (by simp) _).drew⟩
            case rel=>exact ⟨_,wr.heap.size+1,wr.heap.size,rfl,rfl,rfl,by omega,by omega,by omega,heap_alloc2_new wr _ _,(Blk.new wr _ _).alloc _,(((Below.refl _ _).alloc (Nat.le_refl _) _).alloc (by simp) _).drew⟩
           case rest =>
            obtain ⟨V2,b17,b18,hV2,rfl,rfl,hne,hge17,hge18,hk17,hk18,hbv⟩:=hcut
            subst hV2
            clear e1 e2 HSA x0 x1 x2 x3 x4 x5 z0 z1 z2 z3 z4 z5 HXC HYC
            obtain ⟨t,ht⟩:∃t,ltB ⟨xk,xg,xr,xi,xs,xo⟩ ⟨xk,xg,xr,xi,ys,xo⟩=t:=⟨_,rfl⟩
            have heq:=fun w=>eqLt ⟨xk,xg,xr,xi,xs,xo⟩ ⟨xk,xg,xr,xi,ys,xo⟩ w
            simp only [ht] at heq
            have heq2:=fun w=>eqLt ⟨xk,xg,xr,xi,0,xo⟩ ⟨xk,xg,xr,xi,0,xo⟩ w
            rw [show ltB ⟨xk,xg,xr,xi,0,xo⟩ ⟨xk,xg,xr,xi,0,xo⟩=true from ltB_iff.2 rfl] at heq2
            have HTT:=Lib.hid ht
            clear ht
            have u170:V2.cell? ⟨b17,0,none⟩=some (.int .i64 xk):=(hk17.cell 0).trans rfl
            have u171:V2.cell? ⟨b17,1,none⟩=some (.int .i64 xg):=(hk17.cell 1).trans rfl
            have u172:V2.cell? ⟨b17,2,none⟩=some (.int .i64 xr):=(hk17.cell 2).trans rfl
            have u173:V2.cell? ⟨b17,3,none⟩=some (.int .i64 xi):=(hk17.cell 3).trans rfl
            have u174:V2.cell? ⟨b17,4,none⟩=some (.int .i64 xs):=(hk17.cell 4).trans rfl
            have u175:V2.cell? ⟨b17,5,none⟩=some (.bool xo):=(hk17.cell 5).trans rfl
            have f17:=hk17.frozen 4
            have u180:V2.cell? ⟨b18,0,none⟩=some (.int .i64 xk):=(hk18.cell 0).trans rfl
            have u181:V2.cell? ⟨b18,1,none⟩=some (.int .i64 xg):=(hk18.cell 1).trans rfl
            have u182:V2.cell? ⟨b18,2,none⟩=some (.int .i64 xr):=(hk18.cell 2).trans rfl
            have u183:V2.cell? ⟨b18,3,none⟩=some (.int .i64 xi):=(hk18.cell 3).trans rfl
            have u184:V2.cell? ⟨b18,4,none⟩=some (.int .i64 ys):=(hk18.cell 4).trans rfl
            have u185:V2.cell? ⟨b18,5,none⟩=some (.bool xo):=(hk18.cell 5).trans rfl
            have f18:=hk18.frozen 4
            have hb2:=below_chain HBK.out hbv HBK.out.size
            have hge:U.heap.size≤wr.heap.size:=HBK.out.size
            have HB2:=Lib.hid (fun (a b:Value)=>((hb2.setCell (p:=⟨b17,4,none⟩) (by simp only;omega) a).setCell (p:=⟨b18,4,none⟩) (by simp only;omega) b))
            have hne2:b18≠b17:=fun e=>hne e.symm
            have HSB1:=Lib.hid (show (sb&&t)=samB L M (k+1) by rw [HSS.out,←HSB.out,HTT.out])
            have hk8:k+1≤en:=hkt
            clear hk17 hk18 hbv hb2 HSS HSB HTT
            cases sb with
            | false =>
             go_wp2_with fail
             go_roundw
             case rel=>exact ⟨k+1,false,hk8,by go_num,rfl,HB2.out _ _,Lib.hid HSB1.out⟩
             case measure=>simp [intOf];omega
            | true =>
             go_wp2_with fail
             go_roundw
             case rel=>exact ⟨k+1,t,hk8,by go_num,rfl,HB2.out _ _,Lib.hid (by rw [←HSB1.out];simp)⟩
             case measure=>simp [intOf];omega
          ·have j3:¬(k:Int) < (en:Int):=by omega
           have hb2:=below_chain HBU.out HBK.out HBU.out.size
           have HMB1:=Lib.hid (show (mb||sb)=metB Cs L (i+1) by
            rw [HMS.out,←HMB.out,HSB.out]
            congr 1
            unfold samB
            rw [show k=en by omega,List.take_of_length_le (by rw [HLN.out];omega),List.take_of_length_le (by rw [HML.out];omega)])
           have e1:wr.cell? ⟨w.heap.size+1,1,none⟩=some (.slice B en d):=(ks.cell 1).trans rfl
           have hi8:i+1≤q:=hlt
           clear HSB HMB HMS
           cases mb with
           | true =>
            go_wp2_with fail
            go_roundw
            case rel=>exact ⟨i+1,true,hi8,by go_num,rfl,hb2,Lib.hid HMB1.out⟩
            case measure=>simp [intOf];omega
           | false =>
            go_wp2_with fail
            go_roundw
            case rel=>exact ⟨i+1,sb,hi8,by go_num,rfl,hb2,Lib.hid (by rw [←HMB1.out];simp)⟩
            case measure=>simp [intOf];omega
      ·have j1:¬(i:Int) < (q:Int):=by omega
       obtain rfl:mb=true:=by
        rw [HMB.out]
        unfold metB
        rw [List.take_of_length_le (by rw [←HQC.out];omega)]
        simpa using HMEM.out
       clear HMB
       have c0:wr.cell? ⟨w.heap.size,0,none⟩=some (.slice A n c):=(kf.cell 0).trans rfl
       have c1:wr.cell? ⟨w.heap.size,1,none⟩=some (.int .i64 re):=(kf.cell 1).trans rfl
       have c2:wr.cell? ⟨w.heap.size,2,none⟩=some (.int .i64 lo):=(kf.cell 2).trans rfl
       have d0:wr.cell? ⟨w.heap.size+1,0,none⟩=some (.int .i64 K):=(ks.cell 0).trans rfl
       have d1:wr.cell? ⟨w.heap.size+1,1,none⟩=some (.slice B m d):=(ks.cell 1).trans rfl
       go_wp2_with fail
       refine (crossings_is HCR.out _ HL.out).mono ?_
       rintro e u13 ⟨rfl,hb⟩
       clear c0 c1 c2 d0 d1
       replace HA:=Lib.hid (HA.out.below hb)
       replace HL:=Lib.hid (HL.out.below hb)
       replace HT:=Lib.hid (HT.out.below hb)
       replace HB:=Lib.hid (below_chain HB.out hb HB.out.size)
       replace kf:=kf.below hb kf.lt
       replace ks:=ks.below hb ks.lt
       replace HO5:=Lib.hid (HO5.out.below hb)
       clear hb
       by_cases hc0:0 < cr
       ·have k9:(0:Int) < (cr:Int):=by omega
        go_wp2_with fail
        refine (law_known _ HT.out).mono ?_
        rintro e u14 ⟨rfl,hb⟩
        replace HA:=Lib.hid (HA.out.below hb)
        replace HL:=Lib.hid (HL.out.below hb)
        replace HT:=Lib.hid (HT.out.below hb)
        replace HB:=Lib.hid (below_chain HB.out hb HB.out.size)
        replace kf:=kf.below hb kf.lt
        replace ks:=ks.below hb ks.lt
        replace HO5:=Lib.hid (HO5.out.below hb)
        clear hb
        go_wp2_with fail
        go_ret
        exact ⟨rfl,HB.out⟩
       ·have k9:¬(0:Int) < (cr:Int):=by omega
        have k8:((q:Int)==1)=true:=by have:=HONE.out;have:=HQC.out;simp;omega
        go_wp2_with fail
        refine (law_known _ HT.out).mono ?_
        rintro e u15 ⟨rfl,hb⟩
        replace HA:=Lib.hid (HA.out.below hb)
        replace HL:=Lib.hid (HL.out.below hb)
        replace HT:=Lib.hid (HT.out.below hb)
        replace HB:=Lib.hid (below_chain HB.out hb HB.out.size)
        replace kf:=kf.below hb kf.lt
        replace ks:=ks.below hb ks.lt
        replace HO5:=Lib.hid (HO5.out.below hb)
        clear hb
        go_wp2_with fail
        go_ret
        exact ⟨rfl,HB.out⟩
    ·have k3:(E != 0)=true:=by simpa using h0
     obtain rfl:E1=E:=by rw [←HE1.out,←HE.out];unfold slE;rw [if_pos (by rw [HE.out];exact h0)]
     obtain rfl:q=0:=by rw [←HQ.out];unfold slN;rw [if_pos (by rw [HE1.out];exact h0)]
     have k4:(E1==E1)=true:=by simp
     clear h0
     go_wp2_with fail
     refine (law_known _ HT.out).mono ?_
     rintro e u16 ⟨rfl,hb⟩
     replace HA:=Lib.hid (HA.out.below hb)
     replace HL:=Lib.hid (HL.out.below hb)
     replace HT:=Lib.hid (HT.out.below hb)
     replace HB:=Lib.hid (below_chain HB.out hb HB.out.size)
     replace kf:=kf.below hb kf.lt
     replace ks:=ks.below hb ks.lt
     clear hb
     go_wp2_with fail
     go_ret
     exact ⟨rfl,HB.out⟩
   ·have HS:=Lib.hid (show decide (n≤60)=true by simpa using h60)
    have k1:¬(40:Int) < (m:Int):=by omega
    have k2:(6:Int) < (cr:Int):=by omega
    clear h60 hm40 hc6
    go_enter Tryz.func12,Tryz.ntmps12
    have hba:Below w.heap.size w ((w.alloc (.cells #[.slice A n c,.int .i64 re,.int .i64 lo] 24)).alloc (.cells #[.int .i64 K,.slice B m d] 55)):=((Below.refl _ _).alloc (Nat.le_refl _) _).alloc (by simp) _
    replace HA:=Lib.hid (HA.out.below hba)
    replace HL:=Lib.hid (HL.out.below hba)
    replace HT:=Lib.hid (HT.out.below hba)
    replace HB:=Lib.hid (below_chain HB.out hba HB.out.size)
    have kf:=(Blk.new w 24 #[.slice A n c,.int .i64 re,.int .i64 lo]).alloc (.cells #[.int .i64 K,.slice B m d] 55)
    have ks:Blk ((w.alloc (.cells #[.slice A n c,.int .i64 re,.int .i64 lo] 24)).alloc (.cells #[.int .i64 K,.slice B m d] 55)) (w.heap.size+1) 55 #[.int .i64 K,.slice B m d]:=heap_alloc2_new w _ _
    clear hba
    go_upto_region 1 with fail
    generalize (w.alloc (.cells #[.slice A n c,.int .i64 re,.int .i64 lo] 24)).alloc (.cells #[.int .i64 K,.slice B m d] 55)=X at HA HL HT HB kf ks ⊢
    have c0:X.cell? ⟨w.heap.size,0,none⟩=some (.slice A n c):=(kf.cell 0).trans rfl
    have c1:X.cell? ⟨w.heap.size,1,none⟩=some (.int .i64 re):=(kf.cell 1).trans rfl
    have c2:X.cell? ⟨w.heap.size,2,none⟩=some (.int .i64 lo):=(kf.cell 2).trans rfl
    have d0:X.cell? ⟨w.heap.size+1,0,none⟩=some (.int .i64 K):=(ks.cell 0).trans rfl
    have d1:X.cell? ⟨w.heap.size+1,1,none⟩=some (.slice B m d):=(ks.cell 1).trans rfl
    go_wp2_with fail
    refine (lshort_is HS.out A c re lo _).mono ?_
    rintro e u5 ⟨rfl,hb⟩
    clear c0 c1 c2 d0 d1
    replace HA:=Lib.hid (HA.out.below hb)
    replace HL:=Lib.hid (HL.out.below hb)
    replace HT:=Lib.hid (HT.out.below hb)
    replace HB:=Lib.hid (below_chain HB.out hb HB.out.size)
    replace kf:=kf.below hb kf.lt
    replace ks:=ks.below hb ks.lt
    clear hb
    have c0:u5.cell? ⟨w.heap.size,0,none⟩=some (.slice A n c):=(kf.cell 0).trans rfl
    have c1:u5.cell? ⟨w.heap.size,1,none⟩=some (.int .i64 re):=(kf.cell 1).trans rfl
    have c2:u5.cell? ⟨w.heap.size,2,none⟩=some (.int .i64 lo):=(kf.cell 2).trans rfl
    have d0:u5.cell? ⟨w.heap.size+1,0,none⟩=some (.int .i64 K):=(ks.cell 0).trans rfl
    have d1:u5.cell? ⟨w.heap.size+1,1,none⟩=some (.slice B m d):=(ks.cell 1).trans rfl
    go_wp2_with fail
    refine (crossings_is HCR.out _ HL.out).mono ?_
    rintro e u6 ⟨rfl,hb⟩
    clear c0 c1 c2 d0 d1
    replace HA:=Lib.hid (HA.out.below hb)
    replace HL:=Lib.hid (HL.out.below hb)
    replace HT:=Lib.hid (HT.out.below hb)
    replace HB:=Lib.hid (below_chain HB.out hb HB.out.size)
    replace kf:=kf.below hb kf.lt
    replace ks:=ks.below hb ks.lt
    clear hb
    go_wp2_with fail
    refine (law_known _ HT.out).mono ?_
    rintro e u7 ⟨rfl,hb⟩
    replace HA:=Lib.hid (HA.out.below hb)
    replace HL:=Lib.hid (HL.out.below hb)
    replace HT:=Lib.hid (HT.out.below hb)
    replace HB:=Lib.hid (below_chain HB.out hb HB.out.size)
    replace kf:=kf.below hb kf.lt
    replace ks:=ks.below hb ks.lt
    clear hb
    go_wp2_with fail
    go_ret
    exact ⟨rfl,HB.out⟩
  ·have HS:=Lib.hid (show decide (n≤60)=true by simpa using h60)
   have k1:(40:Int) < (m:Int):=by omega
   clear h60 hm40
   go_enter Tryz.func12,Tryz.ntmps12
   have hba:Below w.heap.size w ((w.alloc (.cells #[.slice A n c,.int .i64 re,.int .i64 lo] 24)).alloc (.cells #[.int .i64 K,.slice B m d] 55)):=((Below.refl _ _).alloc (Nat.le_refl _) _).alloc (by simp) _
   replace HA:=Lib.hid (HA.out.below hba)
   replace HL:=Lib.hid (HL.out.below hba)
   replace HT:=Lib.hid (HT.out.below hba)
   replace HB:=Lib.hid (below_chain HB.out hba HB.out.size)
   have kf:=(Blk.new w 24 #[.slice A n c,.int .i64 re,.int .i64 lo]).alloc (.cells #[.int .i64 K,.slice B m d] 55)
   have ks:Blk ((w.alloc (.cells #[.slice A n c,.int .i64 re,.int .i64 lo] 24)).alloc (.cells #[.int .i64 K,.slice B m d] 55)) (w.heap.size+1) 55 #[.int .i64 K,.slice B m d]:=heap_alloc2_new w _ _
   clear hba
   go_upto_region 1 with fail
   generalize (w.alloc (.cells #[.slice A n c,.int .i64 re,.int .i64 lo] 24)).alloc (.cells #[.int .i64 K,.slice B m d] 55)=X at HA HL HT HB kf ks ⊢
   have c0:X.cell? ⟨w.heap.size,0,none⟩=some (.slice A n c):=(kf.cell 0).trans rfl
   have c1:X.cell? ⟨w.heap.size,1,none⟩=some (.int .i64 re):=(kf.cell 1).trans rfl
   have c2:X.cell? ⟨w.heap.size,2,none⟩=some (.int .i64 lo):=(kf.cell 2).trans rfl
   have d0:X.cell? ⟨w.heap.size+1,0,none⟩=some (.int .i64 K):=(ks.cell 0).trans rfl
   have d1:X.cell? ⟨w.heap.size+1,1,none⟩=some (.slice B m d):=(ks.cell 1).trans rfl
   go_wp2_with fail
   refine (lshort_is HS.out A c re lo _).mono ?_
   rintro e u3 ⟨rfl,hb⟩
   clear c0 c1 c2 d0 d1
   replace HA:=Lib.hid (HA.out.below hb)
   replace HL:=Lib.hid (HL.out.below hb)
   replace HT:=Lib.hid (HT.out.below hb)
   replace HB:=Lib.hid (below_chain HB.out hb HB.out.size)
   replace kf:=kf.below hb kf.lt
   replace ks:=ks.below hb ks.lt
   clear hb
   have c0:u3.cell? ⟨w.heap.size,0,none⟩=some (.slice A n c):=(kf.cell 0).trans rfl
   have c1:u3.cell? ⟨w.heap.size,1,none⟩=some (.int .i64 re):=(kf.cell 1).trans rfl
   have c2:u3.cell? ⟨w.heap.size,2,none⟩=some (.int .i64 lo):=(kf.cell 2).trans rfl
   have d0:u3.cell? ⟨w.heap.size+1,0,none⟩=some (.int .i64 K):=(ks.cell 0).trans rfl
   have d1:u3.cell? ⟨w.heap.size+1,1,none⟩=some (.slice B m d):=(ks.cell 1).trans rfl
   go_wp2_with fail
   refine (law_known _ HT.out).mono ?_
   rintro e u4 ⟨rfl,hb⟩
   clear c0 c1 c2 d0 d1
   replace HA:=Lib.hid (HA.out.below hb)
   replace HL:=Lib.hid (HL.out.below hb)
   replace HT:=Lib.hid (HT.out.below hb)
   replace HB:=Lib.hid (below_chain HB.out hb HB.out.size)
   replace kf:=kf.below hb kf.lt
   replace ks:=ks.below hb ks.lt
   clear hb
   go_wp2_with fail
   go_ret
   exact ⟨rfl,HB.out⟩
 ·have HS:=Lib.hid (show decide (n≤60)=false by simpa using h60)
  clear h60
  go_enter Tryz.func12,Tryz.ntmps12
  have hba:Below w.heap.size w ((w.alloc (.cells #[.slice A n c,.int .i64 re,.int .i64 lo] 24)).alloc (.cells #[.int .i64 K,.slice B m d] 55)):=((Below.refl _ _).alloc (Nat.le_refl _) _).alloc (by simp) _
  replace HA:=Lib.hid (HA.out.below hba)
  replace HL:=Lib.hid (HL.out.below hba)
  replace HT:=Lib.hid (HT.out.below hba)
  replace HB:=Lib.hid (below_chain HB.out hba HB.out.size)
  have kf:=(Blk.new w 24 #[.slice A n c,.int .i64 re,.int .i64 lo]).alloc (.cells #[.int .i64 K,.slice B m d] 55)
  have ks:Blk ((w.alloc (.cells #[.slice A n c,.int .i64 re,.int .i64 lo] 24)).alloc (.cells #[.int .i64 K,.slice B m d] 55)) (w.heap.size+1) 55 #[.int .i64 K,.slice B m d]:=heap_alloc2_new w _ _
  clear hba
  go_upto_region 1 with fail
  generalize (w.alloc (.cells #[.slice A n c,.int .i64 re,.int .i64 lo] 24)).alloc (.cells #[.int .i64 K,.slice B m d] 55)=X at HA HL HT HB kf ks ⊢
  have c0:X.cell? ⟨w.heap.size,0,none⟩=some (.slice A n c):=(kf.cell 0).trans rfl
  have c1:X.cell? ⟨w.heap.size,1,none⟩=some (.int .i64 re):=(kf.cell 1).trans rfl
  have c2:X.cell? ⟨w.heap.size,2,none⟩=some (.int .i64 lo):=(kf.cell 2).trans rfl
  have d0:X.cell? ⟨w.heap.size+1,0,none⟩=some (.int .i64 K):=(ks.cell 0).trans rfl
  have d1:X.cell? ⟨w.heap.size+1,1,none⟩=some (.slice B m d):=(ks.cell 1).trans rfl
  go_wp2_with fail
  refine (lshort_is HS.out A c re lo _).mono ?_
  rintro e u1 ⟨rfl,hb⟩
  clear c0 c1 c2 d0 d1
  replace HA:=Lib.hid (HA.out.below hb)
  replace HL:=Lib.hid (HL.out.below hb)
  replace HT:=Lib.hid (HT.out.below hb)
  replace HB:=Lib.hid (below_chain HB.out hb HB.out.size)
  replace kf:=kf.below hb kf.lt
  replace ks:=ks.below hb ks.lt
  clear hb
  go_wp2_with fail
  refine (law_known _ HT.out).mono ?_
  rintro e u2 ⟨rfl,hb⟩
  replace HA:=Lib.hid (HA.out.below hb)
  replace HL:=Lib.hid (HL.out.below hb)
  replace HT:=Lib.hid (HT.out.below hb)
  replace HB:=Lib.hid (below_chain HB.out hb HB.out.size)
  replace kf:=kf.below hb kf.lt
  replace ks:=ks.below hb ks.lt
  clear hb
  go_wp2_with fail
  go_ret
  exact ⟨rfl,HB.out⟩
end Go.Proofs.YtlmdfmnbcndhoaaGreatDoor
