/-
  Contract: the law's fit. Conditions: the operations read.
  Plain: the code of the chapter's example is valid and posed with one sign,not with the other; its sequence. No program.
  Plain: the chapter's example lines: one is no line,one names a finger that is not there. No program.
  Plain: the chapter's example operation and its translation. No program.
  Plain: a code's text,and what reading a text gives. No walk of the program.
  Contracts: the program's word,Print,at every code. Conditions: the letters read; the library's tables stand as they were laid.
  Contract: the program's Print,at every code. Conditions: the letters read; the library's tables stand as they were laid.
  Contract: the document's Print,at every code. Condition: the letters read.
  Plain: the code of the chapter's example,printed. No program.
  Fingers in a slice of one's own: building a slice of one,and append.
  href.Standard(1): the ten fingers of one player,each bearing one loop (plain steps).
-/
import Derived.Test.YtlmdfmnbcndhoaaGreatDoorBk39
import Derived.Test.YtlmdfmnbcndhoaaGreatDoorBk04
import Derived.Test.YtlmdfmnbcndhoaaGreatDoorBk11
import Derived.Test.YtlmdfmnbcndhoaaGreatDoorBk32
import Derived.Test.YtlmdfmnbcndhoaaGreatDoorBk01
import Derived.Deep.RegionHeld3
import Derived.Deep.DeepCutAuto
import Derived.Test.YtlmdfmnbcndhoaaGreatDoorBk02
namespace Go.Proofs.YtlmdfmnbcndhoaaGreatDoor
open Go.RowKit
/-- There are few operations with short paths. -/
def fitB (most:Nat) (Es:List Oe):Bool:=((List.range Es.length).all fun i=>!decide (i≤most) || decide ((oa Es i).n≤12)) && decide (Es.length≤most)
theorem fitB_no {most:Nat} {Es:List Oe} {i:Nat} (hi:i < Es.length) (h1:i≤most) (h2:¬(oa Es i).n≤12):fitB most Es=false:=by
  unfold fitB
  have:((List.range Es.length).all fun i=>!decide (i≤most) || decide ((oa Es i).n≤12))=false:=by
    rw [List.all_eq_false]
    exact ⟨i,List.mem_range.2 hi,by simp [h1,h2]⟩
  rw [this,Bool.false_and]
theorem fitB_end {most:Nat} {Es:List Oe} {k:Nat} (h:∀ i,i < k→(oa Es i).n≤12) (hk:k=Es.length∨most < k):fitB most Es=decide (Es.length≤most):=by
  unfold fitB
  have:((List.range Es.length).all fun i=>!decide (i≤most) || decide ((oa Es i).n≤12))=true:=by
    rw [List.all_eq_true]
    intro i hi
    have hi:=List.mem_range.1 hi
    by_cases h1:i≤most
    · have:=h i (by omega)
      simp [this]
    · simp [h1]
  rw [this,Bool.true_and]
theorem fitB_yes {most:Nat} {Es:List Oe} (h:fitB most Es=true):Es.length≤most∧∀ e∈Es,e.n≤12:=by
  unfold fitB at h
  simp only [Bool.and_eq_true,List.all_eq_true,decide_eq_true_eq] at h
  refine ⟨h.2,fun e he=>?_⟩
  obtain ⟨i,hi⟩:=List.getElem?_of_mem he
  have hlt:=(List.getElem?_eq_some_iff.1 hi).1
  have:=h.1 i (List.mem_range.2 hlt)
  have h2:=oa_get hlt
  rw [hi] at h2
  injection h2 with h2
  rw [← h2] at this
  simp only [Bool.or_eq_true,Bool.not_eq_true',decide_eq_false_iff_not,decide_eq_true_eq] at this
  exact this.resolve_left (by omega)
set_option maxHeartbeats 3200000 in
theorem law_fit (A:Option Addr) (n c:Nat) (Es:List Oe) (most:Nat) (w:World) (hA:Oprs w A n Es) (hm:most≤1000) :
    Calls Tryz.prog 21 #[.slice A n c,.int .i64 (most:Int)] w fun e w'=>e=.returned (.bool (fitB most Es))∧Below w.heap.size w w':=by
  have hle:=hA.le
  have HL:=Lib.hid hA.len
  obtain ⟨r,hr⟩:∃ r,fitB most Es=r:=⟨_,rfl⟩
  rw [hr]
  have HR:=Lib.hid hr
  clear hr
  go_enter Tryz.func21,Tryz.ntmps21
  go_wp2_with fail
  go_loopw [5] (fun v5 wv=>∃ i:Nat,wv=w∧i≤n∧v5=.int .i64 i∧Hid (∀ j,j < i→(oa Es j).n≤12)) (fun v5 _=>n - (intOf v5).toNat)
  case atStart=>exact ⟨0,rfl,by omega,rfl,Lib.hid (fun j hj=>by omega)⟩
  case round =>
    obtain ⟨i,rfl,hi,rfl,HS⟩:=hrel
    have fin:(¬i < n∨¬i≤most)→Hid ((n≤most∧r=true)∨(¬n≤most∧r=false)):=fun h=>Lib.hid (by
      have:=fitB_end HS.out (k:=i) (most:=most) (by rw [HL.out]; omega)
      rw [HR.out,HL.out] at this
      by_cases hq:n≤most
      · exact .inl ⟨hq,by rw [this,decide_eq_true hq]⟩
      · exact .inr ⟨hq,by rw [this,decide_eq_false hq]⟩)
    by_cases hlt:i < n
    · have j0:(0:Int)≤(i:Int):=by omega
      have j1:(i:Int) < (n:Int):=by omega
      by_cases hmo:i≤most
      · have j2:(i:Int)≤(most:Int):=by omega
        obtain ⟨g,o,rfl,_,⟨x0,x1,x2,x3,x4,x5,x6,x7⟩,_⟩:=hA.at_ hlt
        by_cases h12:(oa Es i).n≤12
        · have j3:¬(12:Int) < ((oa Es i).n:Int):=by omega
          have HS2:=Lib.hid (show ∀ j,j < i+1→(oa Es j).n≤12 from fun j hj=>by
            rcases Nat.decEq j i with e | e
            · exact HS.out j (by omega)
            · rw [e]; exact h12)
          clear h12 fin hmo
          go_wp2_with fail
          go_roundw
          case rel=>exact ⟨i+1,(by trivial),by omega,by go_num,HS2⟩
          case measure=>simp [intOf]; omega
        · have j3:(12:Int) < ((oa Es i).n:Int):=by omega
          have HF:=Lib.hid (show r=false by rw [← HR.out]; exact fitB_no (by rw [HL.out]; exact hlt) hmo h12)
          clear h12 fin hmo
          go_wp2_with fail
          go_ret
          exact ⟨by rw [HF.out]; rfl,Below.refl _ _⟩
      · have j2:¬(i:Int)≤(most:Int):=by omega
        have hn2:¬n≤most:=by omega
        have j3:¬(n:Int)≤(most:Int):=by omega
        have HF:=Lib.hid (show r=false from ((fin (.inr hmo)).out.resolve_left (fun h=>hn2 h.1)).2)
        clear fin hmo hn2
        go_wp2_with fail
        go_ret
        exact ⟨by rw [HF.out]; rfl,Below.refl _ _⟩
    · have j1:¬(i:Int) < (n:Int):=by omega
      have HF:=fin (.inl hlt)
      clear fin hlt
      by_cases hq:n≤most
      · have j3:(n:Int)≤(most:Int):=by omega
        have HF2:=Lib.hid (show r=true from (HF.out.resolve_right (fun h=>h.1 hq)).2)
        clear hq HF
        go_wp2_with fail
        go_ret
        exact ⟨by rw [HF2.out]; rfl,Below.refl _ _⟩
      · have j3:¬(n:Int)≤(most:Int):=by omega
        have HF2:=Lib.hid (show r=false from (HF.out.resolve_left (fun h=>hq h.1)).2)
        clear hq HF
        go_wp2_with fail
        go_ret
        exact ⟨by rw [HF2.out]; rfl,Below.refl _ _⟩
end Go.Proofs.YtlmdfmnbcndhoaaGreatDoor

namespace Go.Proofs.YtlmdfmnbcndhoaaGreatDoor
open Go.RowKit
def stdF:List Fg:=[⟨1,false,1⟩,⟨1,false,2⟩,⟨1,false,3⟩,⟨1,false,4⟩,⟨1,false,5⟩,⟨1,true,5⟩,⟨1,true,4⟩,⟨1,true,3⟩,⟨1,true,2⟩,⟨1,true,1⟩]
def exL (s:Int):List Lt:=[⟨1,1,1,0,0,false⟩,⟨1,0,1,0,0,false⟩,⟨2,0,0,1,s,false⟩,⟨1,9,1,0,0,false⟩,⟨1,10,1,0,0,false⟩,⟨2,0,0,1,s,true⟩]
def exS:List UInt8:=[76,49,46,49,60,32,49,117,32,82,49,46,49,62,32,49,111]
def exT:List It:=[⟨some ⟨1,false,1⟩,1,false⟩,⟨none,1,false⟩,⟨some ⟨1,true,1⟩,1,true⟩,⟨none,1,true⟩]
def exB:List Bi:=[⟨1,1,false⟩,⟨0,1,false⟩,⟨10,1,true⟩,⟨0,1,true⟩]
theorem ex_str:Lib.join (exT.map itW) [32]=exS:=by kernel_rfl
theorem ex_ok:∀ t∈exT,okI t:=by
  intro t ht
  simp only [exT,List.mem_cons,List.not_mem_nil,or_false] at ht
  rcases ht with rfl | rfl | rfl | rfl <;> refine ⟨fun f hf=>?_,by simp only; omega,by simp only; omega⟩ <;> first | (cases hf; done) | (injection hf with hf; subst hf; decide)
theorem ex_items:itemsL stdF exS=exB∧bitsB (splt 32 exS)=false∧bitsL stdF (splt 32 exS)=false:=by
  obtain ⟨h1,h2,h3⟩:=bits_at stdF ex_ok
  have hs:splt 32 exS=exT.map itW:=by rw [← ex_str]; exact splt_items (by simp [exT])
  unfold itemsL
  rw [hs,h1,h2,h3]
  exact ⟨by kernel_rfl,by kernel_rfl,by kernel_rfl⟩
theorem ex_begin:beginN stdF 6 4 exS=0:=by kernel_rfl
theorem ex_comp:compB exB=true:=by kernel_rfl
theorem ex_codes:codesTo stdF 6 4 (visN exB / 2) (buildB (manyL stdF.length exB) exB) (2 ^ (visN exB / 2))=[exL 1]:=by kernel_rfl
theorem ex_small:¬(12 < visN exB / 2∨400 < (buildB (manyL stdF.length exB) exB).length):=by decide
theorem ex_rq:rqR stdF 6 4 exS=([exL 1],0):=by
  obtain ⟨h1,h2,h3⟩:=ex_items
  unfold rqR lettersS crS
  rw [h1,ex_begin,if_neg (by simp),if_neg (by decide),if_neg (by rw [h2]; simp),if_neg (by rw [h3]; simp),if_neg (by rw [ex_comp]; simp),if_neg ex_small,ex_codes,if_neg (by simp)]
theorem ex_seq:sqS stdF 6 4 10 (exL 1)=exS∧posedE stdF 6 4 10 (exL 1)=0:=⟨by kernel_rfl,by kernel_rfl⟩
end Go.Proofs.YtlmdfmnbcndhoaaGreatDoor

namespace Go.Proofs.YtlmdfmnbcndhoaaGreatDoor
open Go.RowKit
/-- "take L2 from L7 far under", "release 2L1". -/
def exW1:List UInt8:=[116,97,107,101,32,76,50,32,102,114,111,109,32,76,55,32,102,97,114,32,117,110,100,101,114]
def exW2:List UInt8:=[114,101,108,101,97,115,101,32,50,76,49]
theorem name_no7 {f:Fg} (h:thereB f=true):nameF f≠[76,55]:=by
  obtain ⟨a1,a2,a3,a4⟩:=thereB_iff.1 h
  intro e
  unfold nameF at e
  rw [itoa_digit a3 (by omega)] at e
  have:=congrArg List.getLast? e
  simp only [List.getLast?_append,List.getLast?_cons] at this
  have h2:=byte_inj (a:=48+f.d.toNat) (b:=55) (by omega) (by omega) (by simpa using this)
  omega
theorem ex_text (L:List Fg):parE L exW1=6:=by
  refine (par_no L fun n hn he=>?_).1
  have h:=split_line n
  rw [← he,show splitW exW1=[[116,97,107,101],[76,50],[102,114,111,109],[76,55],[102,97,114],[117,110,100,101,114]] by kernel_rfl] at h
  unfold tokN at h
  injection h with h1 h2
  injection h2 with h2 h3
  have hk18:1≤n.kind∧n.kind≤8:=by
    rcases hn.2 with h | h | h | h | h <;> omega
  have hk:n.kind=5:=by
    rw [← kind_verb hk18.1 hk18.2,← h1]; decide
  obtain ⟨x,hx,hxo⟩:∃ x,n.fr=some x∧okNst x:=by
    rcases hn.2 with h | h | h | h | h
    · omega
    · omega
    · omega
    · exact h.2.1
    · omega
  unfold tlT at h3
  rw [if_neg (by omega),if_neg (by omega),if_pos hk] at h3
  injection h3 with _ h4
  unfold frT at h4
  rw [hx] at h4
  unfold plT at h4
  injection h4 with h5 _
  exact name_no7 hxo.1 h5.symm
theorem ex_none:parE stdF exW2=8:=by
  have h:okN ⟨1,⟨2,false,1⟩,none,[],false⟩:=⟨by decide,.inl ⟨.inl rfl,rfl,rfl,rfl⟩⟩
  have hl:lineN ⟨1,⟨2,false,1⟩,none,[],false⟩=exW2:=by kernel_rfl
  have:=(par_line stdF h).1
  rw [hl] at this
  rw [this]
  decide
end Go.Proofs.YtlmdfmnbcndhoaaGreatDoor

namespace Go.Proofs.YtlmdfmnbcndhoaaGreatDoor
open Go.RowKit
def exO:Og:=⟨3,9,⟨5,1,false,0⟩,[⟨⟨6,1,false,0⟩,true⟩],false⟩
/-- "pick R2 over R5 near loop 1, from L5 near loop 1"; the item "R2<R5no<L5n"; "pick R2 over R5 near, from L5 near\\n". -/
def exLn:List UInt8:=[112,105,99,107,32,82,50,32,111,118,101,114,32,82,53,32,110,101,97,114,32,108,111,111,112,32,49,44,32,102,114,111,109,32,76,53,32,110,101,97,114,32,108,111,111,112,32,49]
def exIt:List UInt8:=[82,50,60,82,53,110,111,60,76,53,110]
def exTr:List UInt8:=[112,105,99,107,32,82,50,32,111,118,101,114,32,82,53,32,110,101,97,114,44,32,102,114,111,109,32,76,53,32,110,101,97,114,10]
theorem ex_words:checkN stdF 6 4 [exO]=0∧lineF stdF exO=exLn:=⟨by kernel_rfl,by kernel_rfl⟩
def exN:Nop:=⟨3,⟨1,true,2⟩,some ⟨⟨1,false,5⟩,0,false,0⟩,[(⟨⟨1,true,5⟩,0,false,0⟩,true)],false⟩
theorem exN_ok:okN exN∧canN exN:=by
  have h1:okNst ⟨⟨1,false,5⟩,0,false,0⟩:=⟨by decide,by simp,by simp,by simp,by simp⟩
  have h2:okNst ⟨⟨1,true,5⟩,0,false,0⟩:=⟨by decide,by simp,by simp,by simp,by simp⟩
  refine ⟨⟨by decide,.inr (.inr (.inl ⟨rfl,⟨_,rfl,h1⟩,fun y hy=>?_,rfl⟩))⟩,rfl,fun x hx=>?_,fun y hy=>?_⟩
  · rw [List.mem_singleton.1 hy]; exact h2
  · injection hx with hx; rw [← hx]; exact ⟨rfl,rfl,rfl⟩
  · rw [List.mem_singleton.1 hy]; exact ⟨rfl,rfl,rfl⟩
theorem ex_item:itemN exN=exIt:=by kernel_rfl
theorem ex_reads:itE stdF exIt=0∧itO stdF exIt=[oOf stdF exN]:=by
  have hs:splt 32 exIt=[exIt]:=by kernel_rfl
  have h:=scan_at exN_ok.1 exN_ok.2
  rw [ex_item] at h
  have ha:scanA (splt 32 exIt)=some [exN]:=by rw [hs,scanA,h,scanA]
  have hl:List.any [exN] (lostO stdF)=false:=by decide
  unfold itE itO
  rw [if_neg (by decide),if_neg (by decide),ha]
  simp only [hl]
  exact ⟨rfl,rfl⟩
theorem ex_trans:trE stdF 6 4 exIt 2 1=0∧trS stdF 6 4 exIt 2 1=exTr:=by
  have hb:beginN stdF 6 4 exIt=0:=by kernel_rfl
  have hf:frB stdF 6 4=true:=by kernel_rfl
  have h1:ntE stdF 6 4 2 exIt=0:=by
    unfold ntE rsE
    rw [if_neg (by omega),if_pos hb]; exact ex_reads.1
  have h2:ntO stdF 6 4 2 exIt=[oOf stdF exN]:=by
    unfold ntO rsO
    rw [if_neg (by omega),if_pos hb]; exact ex_reads.2
  have h3:trE stdF 6 4 exIt 2 1=0:=by
    unfold trE
    rw [if_pos ⟨hf,.inr rfl,.inl rfl⟩,if_pos h1,if_neg (by omega)]
  refine ⟨h3,?_⟩
  unfold trS
  rw [if_pos h3,h2]
  kernel_rfl
end Go.Proofs.YtlmdfmnbcndhoaaGreatDoor

namespace Go.Proofs.YtlmdfmnbcndhoaaGreatDoor
open Go
def ovC (o:Bool):UInt8:=if o then 111 else 117
def sgC (s:Int):UInt8:=if s=1 then 43 else if s = -1 then 45 else 63
/-- A letter's text, a code's text. -/
def ltS (l:Lt):List UInt8:=if l.kind=1 then Lib.itoa l.gate++[46]++Lib.itoa l.rank else if l.kind=2 then Lib.itoa l.id++[ovC l.over]++[sgC l.sign] else [63]
def ltPrS (L:List Lt):List UInt8:=L.flatMap (fun l=>32 :: ltS l)
def printS (K:Int) (L:List Lt):List UInt8:=Lib.itoa K++[58]++ltPrS L
theorem lettersS_snoc (L:List Lt) (l:Lt):ltPrS (L++[l])=ltPrS L++([32]++ltS l):=by unfold ltPrS; rw [List.flatMap_append]; simp
theorem i64_of {x:Int} (h:I64 x):-9223372036854775808≤x∧x≤9223372036854775807:=h
theorem ltS_len {l:Lt} (h:LtOk l):(ltS l).length≤44:=by
  have hg:=i64_of h.gate
  have hr:=i64_of h.rank
  have hi:=i64_of h.id
  have h1:=Lib.itoa_length_le _ hg.1 hg.2
  have h2:=Lib.itoa_length_le _ hr.1 hr.2
  have h3:=Lib.itoa_length_le _ hi.1 hi.2
  unfold ltS
  split
  · simp; omega
  · split
    · simp; omega
    · simp
theorem lettersS_len:∀ {L:List Lt},(∀ x∈L,LtOk x)→(ltPrS L).length≤45 * L.length
  | [],_=>by simp [ltPrS]
  | l :: L,h=>by
    have h1:=ltS_len (h l (List.mem_cons_self ..))
    have h2:=lettersS_len (fun x hx=>h x (List.mem_cons_of_mem _ hx))
    unfold ltPrS at h2 ⊢
    rw [List.flatMap_cons,List.length_append,List.length_cons,List.length_cons]
    omega
theorem printS_len {K:Int} {L:List Lt} (hK:I64 K) (h:∀ x∈L,LtOk x):(printS K L).length≤45 * L.length+22:=by
  have h1:=Lib.itoa_length_le K hK.1 hK.2
  have h2:=lettersS_len h
  unfold printS
  simp only [List.length_append,List.length_cons,List.length_nil]
  omega
end Go.Proofs.YtlmdfmnbcndhoaaGreatDoor

namespace Go.Proofs.YtlmdfmnbcndhoaaGreatDoor
open Go.RowKit
theorem itoa_le {x:Int} (hx:I64 x):(Lib.itoa x).length≤21:=Lib.itoa_length_le x hx.1 hx.2
end Go.Proofs.YtlmdfmnbcndhoaaGreatDoor

namespace Go.Proofs.YtlmdfmnbcndhoaaGreatDoor
open Go.RowKit
theorem la_is {L:List Lt} {i:Nat} (h:i < L.length):L[i]? = some (la L i):=by unfold la; rw [List.getElem?_eq_getElem h]; rfl
theorem take_la {L:List Lt} {i:Nat} (h:i < L.length):L.take (i+1)=L.take i++[la L i]:=by rw [List.take_add_one,la_is h]; rfl
theorem printS_next {K:Int} {L:List Lt} {i:Nat} (h:i < L.length):printS K (L.take (i+1))=printS K (L.take i)++32 :: ltS (la L i):=by
  unfold printS
  rw [take_la h,lettersS_snoc]
  simp
theorem take_ok {L:List Lt} (i:Nat) (h:∀ x∈L,LtOk x):∀ x∈L.take i,LtOk x:=fun x hx=>h x (List.mem_of_mem_take hx)
end Go.Proofs.YtlmdfmnbcndhoaaGreatDoor

namespace Go.Proofs.YtlmdfmnbcndhoaaGreatDoor
open Go.RowKit
theorem sg_cases (sign:Int):((sign == 1)=true∧sgC sign=43)∨((sign == 1)=false∧(sign == -1)=true∧sgC sign=45)∨((sign == 1)=false∧(sign == -1)=false∧sgC sign=63):=by
  unfold sgC
  by_cases h1:sign=1
  · exact .inl ⟨by simpa using h1,by rw [if_pos h1]⟩
  · by_cases h2:sign = -1
    · exact .inr (.inl ⟨by simpa using h1,by simpa using h2,by rw [if_neg h1,if_pos h2]⟩)
    · exact .inr (.inr ⟨by simpa using h1,by simpa using h2,by rw [if_neg h1,if_neg h2]⟩)
set_option maxRecDepth 100000 in
set_option maxHeartbeats 6400000 in
theorem cref_PrintA (K:Int) (A:Option Addr) (n c:Nat) (L:List Lt) (w:World) (hA:Lets w A n L) (hn:n≤1000) (hK:I64 K) :
    Calls Tryz.prog 50 #[.agg #[.int .i64 K,.slice A n c]] w fun e w'=>e=.returned (.string (bA (printS K L)))∧Below w.heap.size w w':=by
  have hLn:=Lib.hid hA.len
  have hbx:=Boxed.refl w K A n c
  have HK:=Lib.hid hK
  have hok:=hA.fits
  have HOK:=Lib.hid hok
  have zK:=itoa_le hK
  have s0:=strAddL (Lib.itoa K) [58] (by omega) (by simp)
  rw [show bA [58]=⟨#[58]⟩ from rfl] at s0
  have hst:Hid (bA (Lib.itoa K++[58])=bA (printS K (L.take 0))):=Lib.hid (by unfold printS ltPrS; simp)
  have x0:=hbx.c0
  clear hK hok
  go_enter Tryz.func50,Tryz.ntmps50
  go_wp2_with fail
  refine (ref_Number K HK.out _).mono ?_
  rintro e w1 ⟨rfl,hb1⟩
  have hb2:=hbx.more hb1
  clear hbx hb1 x0
  go_wp2_with fail
  go_loopw [3,4,5,6] (fun v3 v4 _ _ wr=>∃ (i:Nat) (S:ByteArray),i≤n∧v4=.int .i64 i∧v3=.string S∧Boxed w wr K A n c∧Hid (S=bA (printS K (L.take i)))) (fun _ v4 _ _ _=>n - (intOf v4).toNat)
  case atStart=>exact ⟨0,_,Nat.zero_le _,rfl,rfl,hb2,hst⟩
  case round =>
    obtain ⟨i,S,hi,rfl,rfl,hbr,HS⟩:=hrel
    clear hst hb2
    have x1:=hbr.c1
    by_cases hlt:i < n
    · obtain ⟨gg,o,rfl,hgg,hx,hok⟩:=(hA.below hbr.below).at_ hlt
      obtain ⟨y0,y1,y2,y3,y4,y5⟩:=hx
      have hil:i < L.length:=by rw [hLn.out]; exact hlt
      have zw:=ltS_len hok
      have zp:=printS_len HK.out (take_ok i HOK.out)
      have zt:(L.take i).length≤1000:=by rw [List.length_take]; omega
      have i0:(0:Int)≤(i:Int):=by omega
      have i1:(i:Int) < (n:Int):=by omega
      have s1:=strAddL (printS K (L.take i)) [32] (by omega) (by simp)
      have s2:=strAddL (printS K (L.take i)++[32]) (ltS (la L i)) (by simp; omega) (by omega)
      rw [show bA [32]=⟨#[32]⟩ from rfl] at s1
      rw [← HS.out] at s1
      obtain ⟨D,hD⟩:∃ D,D=bA (printS K (L.take i)++[32]):=⟨_,rfl⟩
      obtain ⟨E,hE⟩:∃ E,E=bA ((printS K (L.take i)++[32])++ltS (la L i)):=⟨_,rfl⟩
      obtain ⟨W,hW⟩:∃ W,W=bA (ltS (la L i)):=⟨_,rfl⟩
      rw [← hE,← hD,← hW] at s2
      rw [← hD] at s1
      have HS1:=Lib.hid (show E=bA (printS K (L.take (i+1))) by rw [hE,printS_next hil]; simp)
      have HW:=Lib.hid hW
      have HLN:=Lib.hid (show I64 (la L i).gate∧I64 (la L i).rank∧I64 (la L i).id from ⟨hok.gate,hok.rank,hok.id⟩)
      obtain ⟨kind,hk⟩:∃ k,(la L i).kind=k:=⟨_,rfl⟩
      obtain ⟨gate,hg⟩:∃ k,(la L i).gate=k:=⟨_,rfl⟩
      obtain ⟨rank,hr⟩:∃ k,(la L i).rank=k:=⟨_,rfl⟩
      obtain ⟨id,hid⟩:∃ k,(la L i).id=k:=⟨_,rfl⟩
      obtain ⟨sign,hs⟩:∃ k,(la L i).sign=k:=⟨_,rfl⟩
      obtain ⟨over,ho⟩:∃ k,(la L i).over=k:=⟨_,rfl⟩
      have hl:la L i=⟨kind,gate,rank,id,sign,over⟩:=by rw [← hk,← hg,← hr,← hid,← hs,← ho]
      rw [hk] at y0
      rw [hg] at y1
      rw [hr] at y2
      rw [hid] at y3
      rw [hs] at y4
      rw [ho] at y5
      rw [hg,hr,hid] at HLN
      rw [hl] at HW
      have zG:=itoa_le HLN.out.1
      have zR:=itoa_le HLN.out.2.1
      have zI:=itoa_le HLN.out.2.2
      clear HS hD hE hW zw zp zt hok hk hg hr hid hs ho hl
      go_upto_region 6 with fail
      obtain ⟨X,hX⟩:∃ X,X=wr.alloc (.cells #[.int .i64 kind,.int .i64 gate,.int .i64 rank,.int .i64 id,.int .i64 sign,.bool over] 76):=⟨_,rfl⟩
      rw [← hX]
      have hk0:Blk X wr.heap.size 76 #[.int .i64 kind,.int .i64 gate,.int .i64 rank,.int .i64 id,.int .i64 sign,.bool over]:=by rw [hX]; exact Blk.new _ _ _
      have hbX:Boxed w X K (some ⟨gg,o,none⟩) n c:=by rw [hX]; exact hbr.alloc _
      have hsz0:=hk0.lt
      clear hX y0 y1 y2 y3 y4 y5 x1 hbr
      have c0:X.cell? ⟨wr.heap.size,0,none⟩=some (.int .i64 kind):=(hk0.cell 0).trans rfl
      have c1:X.cell? ⟨wr.heap.size,1,none⟩=some (.int .i64 gate):=(hk0.cell 1).trans rfl
      have c2:X.cell? ⟨wr.heap.size,2,none⟩=some (.int .i64 rank):=(hk0.cell 2).trans rfl
      have c3:X.cell? ⟨wr.heap.size,3,none⟩=some (.int .i64 id):=(hk0.cell 3).trans rfl
      by_cases k1:kind=1
      · have q1:(kind == 1)=true:=by simpa using k1
        have q2:(kind == 2)=false:=by simp; omega
        have hf:=show W=bA (Lib.itoa gate++46 :: Lib.itoa rank) by rw [HW.out]; unfold ltS; rw [if_pos k1]; simp
        have t1:=strAddL (Lib.itoa gate) [46] (by omega) (by simp)
        have t2:=strAddL (Lib.itoa gate++[46]) (Lib.itoa rank) (by simp; omega) (by omega)
        rw [show bA [46]=⟨#[46]⟩ from rfl] at t1
        rw [hf] at s2
        clear k1 zI zG zR HW hf
        have KP:=Lib.hid (show ∀ wx,Below X.heap.size X wx→(Below X.heap.size X wx∧wx.cell? ⟨wr.heap.size,1,none⟩=some (.int .i64 gate)∧wx.cell? ⟨wr.heap.size,2,none⟩=some (.int .i64 rank)) from fun wx h=>⟨h,(h.cell (p:=⟨wr.heap.size,1,none⟩) hsz0).trans c1,(h.cell (p:=⟨wr.heap.size,2,none⟩) hsz0).trans c2⟩)
        go_wp2_with fail
        first
          | go_region_held3 (fun wx=>Below X.heap.size X wx∧wx.cell? ⟨wr.heap.size,1,none⟩=some (.int .i64 gate)∧wx.cell? ⟨wr.heap.size,2,none⟩=some (.int .i64 rank)) (first | assumption | exact KP.out _ (Below.refl _ _).drew | exact KP.out _ (below_chain (And.left (by assumption)) (by assumption) (Below.size (And.left (by assumption)))))
              (first
                | (go_at_call 78; refine (ref_Number gate HLN.out.1 _).mono ?_; rintro e wx ⟨rfl,hb5⟩)
                | (go_at_call 78; refine (ref_Number rank HLN.out.2.1 _).mono ?_; rintro e wx ⟨rfl,hb5⟩))
          | fail
        all_goals
          have hbf:=And.left (show Below X.heap.size X _∧_ by assumption)
          have e0:World.cell? _ ⟨wr.heap.size,0,none⟩=some (.int .i64 kind):=((hk0.below hbf hsz0).cell 0).trans rfl
          clear hk0
          have hbr2:=hbX.more hbf
          clear hbX
          go_wp2_with fail
          go_roundw
          case rel=>exact ⟨i+1,E,by omega,by go_num,rfl,hbr2,HS1⟩
          case measure=>simp [intOf]; omega
      · have q1:(kind == 1)=false:=by simpa using k1
        by_cases k2:kind=2
        · have q2:(kind == 2)=true:=by simpa using k2
          have t1:=strAddL (Lib.itoa id) [117] (by omega) (by simp)
          have t2:=strAddL (Lib.itoa id) [111] (by omega) (by simp)
          have t3:=strAddL (Lib.itoa id++[117]) [43] (by simp; omega) (by simp)
          have t4:=strAddL (Lib.itoa id++[117]) [45] (by simp; omega) (by simp)
          have t5:=strAddL (Lib.itoa id++[117]) [63] (by simp; omega) (by simp)
          have t6:=strAddL (Lib.itoa id++[111]) [43] (by simp; omega) (by simp)
          have t7:=strAddL (Lib.itoa id++[111]) [45] (by simp; omega) (by simp)
          have t8:=strAddL (Lib.itoa id++[111]) [63] (by simp; omega) (by simp)
          rw [show bA [117]=⟨#[117]⟩ from rfl] at t1
          rw [show bA [111]=⟨#[111]⟩ from rfl] at t2
          rw [show bA [43]=⟨#[43]⟩ from rfl] at t3 t6
          rw [show bA [45]=⟨#[45]⟩ from rfl] at t4 t7
          rw [show bA [63]=⟨#[63]⟩ from rfl] at t5 t8
          clear zG zR zI c1 c2
          cases over with
          | false =>
            rcases sg_cases sign with ⟨n1,hS⟩ | ⟨n1,n2,hS⟩ | ⟨n1,n2,hS⟩
            all_goals
              have hf:=show W=bA (Lib.itoa id++[ovC false,sgC sign]) by rw [HW.out]; unfold ltS; rw [if_neg k1,if_pos k2]; simp
              rw [hS,show ovC false=117 from rfl] at hf
              rw [hf] at s2
              clear hS hf HW
              go_wp2_with fail
              refine (ref_Number id HLN.out.2.2 _).mono ?_
              rintro e w2 ⟨rfl,hb3⟩
              have hk2:=hk0.below hb3 hsz0
              have d4:w2.cell? ⟨wr.heap.size,4,none⟩=some (.int .i64 sign):=(hk2.cell 4).trans rfl
              have d5:w2.cell? ⟨wr.heap.size,5,none⟩=some (.bool false):=(hk2.cell 5).trans rfl
              clear hk2 hk0
              have hbr2:=hbX.more hb3
              clear hbX
              go_wp2_with fail
              go_roundw
              case rel=>exact ⟨i+1,E,by omega,by go_num,rfl,hbr2,HS1⟩
              case measure=>simp [intOf]; omega
          | true =>
            rcases sg_cases sign with ⟨n1,hS⟩ | ⟨n1,n2,hS⟩ | ⟨n1,n2,hS⟩
            all_goals
              have hf:=show W=bA (Lib.itoa id++[ovC true,sgC sign]) by rw [HW.out]; unfold ltS; rw [if_neg k1,if_pos k2]; simp
              rw [hS,show ovC true=111 from rfl] at hf
              rw [hf] at s2
              clear hS hf HW
              go_wp2_with fail
              refine (ref_Number id HLN.out.2.2 _).mono ?_
              rintro e w2 ⟨rfl,hb3⟩
              have hk2:=hk0.below hb3 hsz0
              have d3:w2.cell? ⟨wr.heap.size,3,none⟩=some (.int .i64 id):=(hk2.cell 3).trans rfl
              have d5:w2.cell? ⟨wr.heap.size,5,none⟩=some (.bool true):=(hk2.cell 5).trans rfl
              have hsz2:=hk2.lt
              go_wp2_with fail
              refine (ref_Number id HLN.out.2.2 _).mono ?_
              rintro e w3 ⟨rfl,hb4⟩
              have e4:w3.cell? ⟨wr.heap.size,4,none⟩=some (.int .i64 sign):=((hk2.below hb4 hsz2).cell 4).trans rfl
              have hb5:=hb3.trans (hb4.mono hb3.size)
              clear d3 d5 hk2 hk0
              have hbr2:=hbX.more hb5
              clear hbX
              go_wp2_with fail
              go_roundw
              case rel=>exact ⟨i+1,E,by omega,by go_num,rfl,hbr2,HS1⟩
              case measure=>simp [intOf]; omega
        · have q2:(kind == 2)=false:=by simpa using k2
          have hf:=show W=bA [63] by rw [HW.out]; unfold ltS; rw [if_neg k1,if_neg k2]
          rw [hf,show bA [63]=⟨#[63]⟩ from rfl] at s2
          have hb3:=Below.refl X.heap.size X
          clear k1 k2 zG zR zI HW hf
          have hbr2:=hbX.more hb3
          clear hbX
          go_wp2_with fail
          go_roundw
          case rel=>exact ⟨i+1,E,by omega,by go_num,rfl,hbr2,HS1⟩
          case measure=>simp [intOf]; omega
    · have hin:i=n:=by omega
      have hS:=HS.out
      rw [hin,List.take_of_length_le (by rw [hLn.out]; exact Nat.le_refl _)] at hS
      have HS1:=Lib.hid hS
      have i1:¬ (i:Int) < (n:Int):=by omega
      clear hS hin HS
      go_wp2_with fail
      go_ret
      exact ⟨by rw [← HS1.out]; rfl,hbr.below⟩
end Go.Proofs.YtlmdfmnbcndhoaaGreatDoor

namespace Go.Proofs.YtlmdfmnbcndhoaaGreatDoor
open Go.RowKit
def exP:List UInt8:=[49,48,58,32,49,46,49,32,48,46,49,32,49,117,43,32,57,46,49,32,49,48,46,49,32,49,111,43]
theorem ex_print:printS 10 (exL 1)=exP:=by kernel_rfl
end Go.Proofs.YtlmdfmnbcndhoaaGreatDoor

namespace Go.Proofs.YtlmdfmnbcndhoaaGreatDoor
open Go.RowKit
def fgC (f:Fg):List Value:=[.int .i64 f.p,.bool f.r,.int .i64 f.d]
theorem fgInfo:(Tryz.prog.info? 90).map (fun i=>(i.zero,i.size,i.bytes))=some (some (.agg #[.int .i64 0,.bool false,.int .i64 0]),3,24):=by kernel_rfl
theorem buildG1 (p d:Int) (r:Bool) (w:World):(Instr.buildSlice 22 1 #[(0,.agg #[.int .i64 p,.bool r,.int .i64 d])]).run Tryz.prog w=.ok (.slice (some ⟨w.heap.size,0,none⟩) 1 1) (w.alloc (.cells #[.int .i64 p,.bool r,.int .i64 d] 90)):=by
  obtain ⟨i0,hi,hz0,hz1,hz2⟩:=info_parts fgInfo
  refine run_buildSlice w _ _ 1 _ _ i0 _ Tryz.underlying22 hi hz0 (by rw [hz1]; omega) (by rw [hz1]; omega) ?_
  rw [hz1]
  kernel_rfl
/-- 'append(out, finger)'. -/
theorem pushG {w:World} {ops:Array Oper} {rest:List Oper} {o:Oper} {a:Act} {Q':Exit→Act→World→Prop} (hgd:o.guard=none) (s x:Operand)
    (ho:o.op=.call { callee:=.builtin .append,args:=#[s,x],argTypes:=#[22,22] })
    {base:Nat} {A:Option Addr} {n c:Nat} {L:List Fg} (hst:Row w base 3 A n c (L.flatMap fgC)) (f:Fg) (hs:a.eval s=.slice A n c)
    (H:Nat) (hH:w.heap.size=H) (hx:a.eval x=.slice (some ⟨H,0,none⟩) 1 1) (N:Nat) (hN:n+1=N) (hn:N≤1000000) (hbase:base≤w.heap.size)
    (h:∀ A' c' w',Row w' base 3 A' N c' ((L++[f]).flatMap fgC)→w.grownBy w' (blk A)→(∀ k,blk A'=some k→blk A=some k∨w.heap.size≤k)→wpList Tryz.prog ops Q' rest (a.put o.dst (.slice A' N c')) w') :
    wpList Tryz.prog ops Q' (o :: rest) a (w.alloc (.cells #[.int .i64 f.p,.bool f.r,.int .i64 f.d] 90)):=by
  subst hH
  obtain ⟨i0,hi,hz0,hz1,hz2⟩:=info_parts fgInfo
  refine appR hgd s x 22 ho 90 i0 _ 3 24 Tryz.underlying22 hi hz0 hz1 hz2 rfl (by decide) (hst.alloc _) (Src.new (m:=1) (cs:=fgC f) rfl)
    (by intro u hu; simp [fgC] at hu; rcases hu with rfl | rfl | rfl <;> rfl) hs hx N hN (by unfold maxLen; omega) (by omega) (by simp; omega) ?_
  intro A' c' w' h1 h2 h3 _
  refine h A' c' w' (by rw [List.flatMap_append]; simpa using h1) (only_trans (World.grownBy_alloc w _ _) h2) (fun k hk=>?_)
  rcases h3 k hk with h | h
  · exact .inl h
  · right; simp at h; omega
end Go.Proofs.YtlmdfmnbcndhoaaGreatDoor

namespace Go.Proofs.YtlmdfmnbcndhoaaGreatDoor
open Go.RowKit
theorem std_up {i:Nat} (h:i < 5):(stdF.take i)++[⟨1,false,(i:Int)+1⟩]=stdF.take (i+1):=by
  rcases i with _ | _ | _ | _ | _ | i <;> first | rfl | omega
theorem std_down {i:Nat} (h:i < 5):(stdF.take (5+i))++[⟨1,true,5 - (i:Int)⟩]=stdF.take (5+i+1):=by
  rcases i with _ | _ | _ | _ | _ | i <;> first | rfl | omega
end Go.Proofs.YtlmdfmnbcndhoaaGreatDoor
