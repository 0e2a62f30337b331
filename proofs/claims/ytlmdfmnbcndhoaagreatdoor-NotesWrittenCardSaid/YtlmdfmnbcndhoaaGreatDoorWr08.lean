/-
  Contracts: the program's Words. Conditions: frame and operation read; the path is not long; the library's tables stand.
  Contracts: whether signs can say an operation (the program's simple, can, Can). Conditions: frame and operation read, the fingers are there.
  Contracts: whether signs can say an operation (the program's can, Can). Conditions: frame and operation read.
  Contract: the program's sign of a string. Conditions: the frame is valid, the finger is in it.
-/
import Derived.Test.YtlmdfmnbcndhoaaGreatDoorWr07
import Derived.Great.BuildSlice
namespace Go.Proofs.YtlmdfmnbcndhoaaGreatDoor
open Go.RowKit
theorem zDz (L:List Fg) (re lo:Int) (O:List Og):(zBa L re lo O=0∧frOk L re lo∧∀o∈O,zAm L.length o=true)∨zBa L re lo O=2:=by
 unfold zBa
 cases h1:frB L re lo with
 | false=>exact .inr rfl
 | true =>
  cases h2:O.all (zAm L.length) with
  | false=>exact .inr rfl
  | true=>exact .inl ⟨rfl,zCo.1 h1,by simpa using h2⟩
theorem Oprs.one (w:World) (o:Og) (A:Option Addr) (n c:Nat) (t:TypeId) (h:OpIn w o A n c) :
  Oprs (w.alloc (.cells #[.int .i64 o.kind,.int .i64 o.f,.int .i64 o.fr.f,.int .i64 o.fr.l,.bool o.fr.far,.int .i64 o.fr.pc,.slice A n c,.bool o.over] t)) (some ⟨w.heap.size,0,none⟩) 1 [⟨o,A,n,c⟩]:=by
 refine ⟨⟨rfl,by omega,fun _=>⟨_,_,rfl,by simp,fun j x hx q v hv=>?_⟩⟩,fun e he=>?_⟩
 ·rcases j with _ | j
  ·simp only [List.getElem?_cons_zero,Option.some.injEq] at hx
   subst hx
   rw [Nat.zero_mul,Nat.add_zero,Nat.zero_add,World.cell?_alloc_at _ _ _ _ rfl,←Array.getElem?_toList]
   exact hv
  ·simp at hx
 ·obtain rfl:e=⟨o,A,n,c⟩:=by simpa using he
  exact h.below ((Below.refl _ _).alloc (Nat.le_refl _) _)
set_option maxHeartbeats 3200000 in
set_option maxRecDepth 100000 in
theorem notes_Words (A:Option Addr) (n c:Nat) (L:List Fg) (re lo:Int) (o:Og) (B:Option Addr) (m d:Nat) (w:World) (hA:Fgs w A n L) (hc:n≤c) (hO:OpIn w o B m d) (hm:m≤10000) (ht:Tabs w) :
  Calls Tryz.prog 41 #[frV A n c re lo,opV o B m d] w fun e w'=>e=.returned (.tuple #[.string (bA (if zBa L re lo [o]=0 then zDy L o else [])),.int .i64 (zBa L re lo [o])])∧Below w.heap.size w w':=by
 have hb0:Below w.heap.size w ((w.alloc (.cells #[.slice A n c,.int .i64 re,.int .i64 lo] 24)).alloc (.cells #[.int .i64 o.kind,.int .i64 o.f,.int .i64 o.fr.f,.int .i64 o.fr.l,.bool o.fr.far,.int .i64 o.fr.pc,.slice B m d,.bool o.over] 32)):=((Below.refl _ _).alloc (Nat.le_refl _) _).alloc (by simp) _
 have hb1:Below w.heap.size w (((w.alloc (.cells #[.slice A n c,.int .i64 re,.int .i64 lo] 24)).alloc (.cells #[.int .i64 o.kind,.int .i64 o.f,.int .i64 o.fr.f,.int .i64 o.fr.l,.bool o.fr.far,.int .i64 o.fr.pc,.slice B m d,.bool o.over] 32)).alloc (.cells #[.int .i64 o.kind,.int .i64 o.f,.int .i64 o.fr.f,.int .i64 o.fr.l,.bool o.fr.far,.int .i64 o.fr.pc,.slice B m d,.bool o.over] 32)):=hb0.alloc hb0.size _
 have hk0:=((Blk.new w 24 #[.slice A n c,.int .i64 re,.int .i64 lo]).alloc (.cells #[.int .i64 o.kind,.int .i64 o.f,.int .i64 o.fr.f,.int .i64 o.fr.l,.bool o.fr.far,.int .i64 o.fr.pc,.slice B m d,.bool o.over] 32)).alloc (.cells #[.int .i64 o.kind,.int .i64 o.f,.int .i64 o.fr.f,.int .i64 o.fr.l,.bool o.fr.far,.int .i64 o.fr.pc,.slice B m d,.bool o.over] 32)
 have hk1':Blk ((w.alloc (.cells #[.slice A n c,.int .i64 re,.int .i64 lo] 24)).alloc (.cells #[.int .i64 o.kind,.int .i64 o.f,.int .i64 o.fr.f,.int .i64 o.fr.l,.bool o.fr.far,.int .i64 o.fr.pc,.slice B m d,.bool o.over] 32)) (w.heap.size+1) 32 #[.int .i64 o.kind,.int .i64 o.f,.int .i64 o.fr.f,.int .i64 o.fr.l,.bool o.fr.far,.int .i64 o.fr.pc,.slice B m d,.bool o.over]:=heap_alloc2_new w _ _
 have hk1:=hk1'.alloc (.cells #[.int .i64 o.kind,.int .i64 o.f,.int .i64 o.fr.f,.int .i64 o.fr.l,.bool o.fr.far,.int .i64 o.fr.pc,.slice B m d,.bool o.over] 32)
 have hone:=Oprs.one _ o B m d 32 (hO.below hb0)
 simp only [World.size_alloc] at hone
 have hC:=zEr A n c L re lo _ 1 1 [⟨o,B,m,d⟩] _ (hA.below hb1) hc hone
 rw [show List.map (fun e:Oe=>e.o) [(⟨o,B,m,d⟩:Oe)]=[o] from rfl] at hC
 have hcase:=zDz L re lo [o]
 obtain ⟨E,hE⟩:∃E,zBa L re lo [o]=E:=⟨_,rfl⟩
 rw [hE] at hcase hC ⊢
 have HC:=Lib.hid hC
 have hn:=hA.len
 have HN:=Lib.hid hn
 obtain ⟨kind,f,⟨ff,fl,ffar,fpc⟩,path,over⟩:=o
 simp only at hb0 hb1 hk0 hk1 hone HC ⊢
 clear hE hk1' hone hn hC
 rcases hcase with ⟨rfl,hfr,hro⟩ | rfl
 ·have hri:zAm n ⟨kind,f,⟨ff,fl,ffar,fpc⟩,path,over⟩=true:=by have:=hro _ (List.mem_singleton.2 rfl);rw [HN.out] at this;exact this
  have HLN:=Lib.hid (fun wx hAx hOx htx=>zHI A n c L re lo ⟨kind,f,⟨ff,fl,ffar,fpc⟩,path,over⟩ B m d wx hAx hfr hOx hri hm htx)
  clear hro hri
  go_enter Tryz.func41,Tryz.ntmps41
  go_wp2_with fail
  refine HC.out.mono ?_
  rintro e w2 ⟨rfl,hb2⟩
  have hb3:=zAa hb1 hb2 hb1.size
  have hk2:=hk0.below hb2 hk0.lt
  have ho2:=hk1.below hb2 hk1.lt
  have a0:=(hk2.cell 0).trans rfl
  have a1:=(hk2.cell 1).trans rfl
  have a2:=(hk2.cell 2).trans rfl
  have e0:=(ho2.cell 0).trans rfl
  have e1:=(ho2.cell 1).trans rfl
  have e2:=(ho2.cell 2).trans rfl
  have e3:=(ho2.cell 3).trans rfl
  have e4:=(ho2.cell 4).trans rfl
  have e5:=(ho2.cell 5).trans rfl
  have e6:=(ho2.cell 6).trans rfl
  have e7:=(ho2.cell 7).trans rfl
  go_wp2_with fail
  refine (HLN.out _ (hA.below hb3) (hO.below hb3) (ht.below hb3)).mono ?_
  rintro e w5 ⟨rfl,hb5⟩
  have hb6:=zAa hb3 hb5 hb3.size
  clear a0 a1 a2 e0 e1 e2 e3 e4 e5 e6 e7
  go_wp2_with fail
  go_ret2
  exact ⟨by simp,hb6⟩
 ·go_enter Tryz.func41,Tryz.ntmps41
  go_wp2_with fail
  refine HC.out.mono ?_
  rintro e w2 ⟨rfl,hb2⟩
  have hb3:=zAa hb1 hb2 hb1.size
  go_wp2_with fail
  go_ret2
  exact ⟨rfl,hb3⟩
end Go.Proofs.YtlmdfmnbcndhoaaGreatDoor
namespace Go.Proofs.YtlmdfmnbcndhoaaGreatDoor
open Go.RowKit
def zCb (L:List Fg) (s:Sg):Bool:=decide ((fa L (s.f-1).toNat).p=1)&&decide (s.l=0)&&decide (s.pc=0)
def canB (L:List Fg) (o:Og):Bool:=decide ((fa L (o.f-1).toNat).p=1)&&(decide (¬0 < o.fr.f)||zCb L o.fr)&&o.path.all fun x=>zCb L x.s
set_option maxHeartbeats 800000 in
theorem zFO (A:Option Addr) (n c:Nat) (L:List Fg) (re lo:Int) (s:Sg) (w:World) (hA:Fgs w A n L) (h1:1≤s.f) (h2:s.f≤(n:Int)) :
  Calls Tryz.prog 112 #[frV A n c re lo,sgV s] w fun e w'=>e=.returned (.bool (zCb L s))∧Below w.heap.size w w':=by
 have hle:=hA.le
 have hb0:Below w.heap.size w ((w.alloc (.cells #[.slice A n c,.int .i64 re,.int .i64 lo] 24)).alloc (.cells #[.int .i64 s.f,.int .i64 s.l,.bool s.far,.int .i64 s.pc] 29)):=((Below.refl _ _).alloc (Nat.le_refl _) _).alloc (by simp) _
 have hA0:=hA.below hb0
 obtain ⟨i,hi⟩:∃i:Nat,s.f=(i:Int)+1:=⟨(s.f-1).toNat,by omega⟩
 have hin:i < n:=by omega
 obtain ⟨g,o,rfl,hg,⟨x0,x1,x2⟩,_⟩:=hA0.at_ hin
 have hs:zCb L s=(decide ((fa L i).p=1)&&decide (s.l=0)&&decide (s.pc=0)):=by unfold zCb;rw [hi,show ((i:Int)+1-1).toNat=i by omega]
 have q1:wrap64 (s.f-1)=(i:Int):=by unfold wrap64;omega
 have q2:s.f-1=(i:Int):=by omega
 have j0:(0:Int)≤(i:Int):=by omega
 have j1:(i:Int) < (n:Int):=by omega
 generalize fa L i=x at x0 x1 x2 hs
 obtain ⟨f,l,far,pc⟩:=s
 obtain ⟨p,r,dg⟩:=x
 simp only at x0 hs q1 q2 hb0 hg ⊢
 clear hi hA0 hA hin h1 h2 x1 x2
 by_cases e1:p=1
 ·subst e1
  by_cases e2:l=0
  ·subst e2
   by_cases e3:pc=0
   ·subst e3
    have HS:=Lib.hid hs
    clear hs
    go_enter Tryz.func112,Tryz.ntmps112
    go_wp2_with fail
    go_ret
    exact ⟨retB (by rw [HS.out];rfl),hb0⟩
   ·have k3:(pc==0)=false:=by simpa using e3
    have HS:=Lib.hid (hs.trans (show _=false by simp [e3]))
    clear hs e3
    go_enter Tryz.func112,Tryz.ntmps112
    go_wp2_with fail
    go_ret
    exact ⟨retB (by rw [HS.out]),hb0⟩
  ·have k2:(l==0)=false:=by simpa using e2
   have HS:=Lib.hid (hs.trans (show _=false by simp [e2]))
   clear hs e2
   go_enter Tryz.func112,Tryz.ntmps112
   go_wp2_with fail
   go_ret
   exact ⟨retB (by rw [HS.out]),hb0⟩
 ·have k1:(p==1)=false:=by simpa using e1
  have HS:=Lib.hid (hs.trans (show _=false by simp [e1]))
  clear hs e1
  go_enter Tryz.func112,Tryz.ntmps112
  go_wp2_with fail
  go_ret
  exact ⟨retB (by rw [HS.out]),hb0⟩
theorem simple_is {L:List Fg} {s:Sg} {b:Bool} (h:zCb L s=b) (A:Option Addr) (n c:Nat) (re lo:Int) (w:World) (hA:Fgs w A n L) (h1:1≤s.f) (h2:s.f≤(n:Int)) :
  Calls Tryz.prog 112 #[frV A n c re lo,sgV s] w fun e w'=>e=.returned (.bool b)∧Below w.heap.size w w':=by
 subst h;exact zFO A n c L re lo s w hA h1 h2
set_option maxHeartbeats 800000 in
theorem notes_can1 (A:Option Addr) (n c:Nat) (L:List Fg) (re lo:Int) (x:Sp) (b:Nat) (w:World) (hA:Fgs w A n L) (hk:Blk w b 24 #[.slice A n c,.int .i64 re,.int .i64 lo]) (h1:1≤x.s.f) (h2:x.s.f≤(n:Int)) :
  Calls Tryz.prog 114 #[spV x,.pointer (some ⟨b,0,none⟩)] w fun e w'=>e=.returned (.bool (!zCb L x.s))∧Below w.heap.size w w':=by
 have hb0:Below w.heap.size w (w.alloc (.cells #[.int .i64 x.s.f,.int .i64 x.s.l,.bool x.s.far,.int .i64 x.s.pc,.bool x.over] 86)):=(Below.refl _ _).alloc (Nat.le_refl _) _
 have hk2:=hk.alloc (.cells #[.int .i64 x.s.f,.int .i64 x.s.l,.bool x.s.far,.int .i64 x.s.pc,.bool x.over] 86)
 have y0:=(hk2.cell 0).trans rfl
 have y1:=(hk2.cell 1).trans rfl
 have y2:=(hk2.cell 2).trans rfl
 have HC:=Lib.hid (zFO A n c L re lo x.s _ (hA.below hb0) h1 h2)
 go_enter Tryz.func114,Tryz.ntmps114
 go_wp2_with fail
 refine HC.out.mono ?_
 rintro e w2 ⟨rfl,hb2⟩
 have hb3:=zAa hb0 hb2 hb0.size
 clear y0 y1 y2
 go_wp2_with fail
 go_ret
 exact ⟨rfl,hb3⟩
/-- What an index that is looked for can be. -/
def IdxP (q:Bool) (k:Int):Prop:=if q then k = -1 else 0≤k
theorem can1_is {L:List Fg} {x:Sp} {q:Bool} (h:zCb L x.s=q) (A:Option Addr) (n c:Nat) (re lo:Int) (b:Nat) (w:World) (hA:Fgs w A n L) (hk:Blk w b 24 #[.slice A n c,.int .i64 re,.int .i64 lo]) (h1:1≤x.s.f) (h2:x.s.f≤(n:Int)) :
  Calls Tryz.prog 114 #[spV x,.pointer (some ⟨b,0,none⟩)] w fun e w'=>e=.returned (.bool (!q))∧Below w.heap.size w w':=by
 subst h;exact notes_can1 A n c L re lo x b w hA hk h1 h2
theorem all_simp {L:List Fg} {P:List Sp} (h:∀j,j < P.length→zCb L (pa P j).s=true):(P.all fun x=>zCb L x.s)=true:=by
 rw [List.all_eq_true]
 intro x hx
 obtain ⟨i,hi⟩:=List.getElem?_of_mem hx
 have hlt:=(List.getElem?_eq_some_iff.1 hi).1
 have h2:=h i hlt
 have h3:=zEk hlt
 rw [hi] at h3
 injection h3 with h3
 rw [h3];exact h2
theorem all_simp_no {L:List Fg} {P:List Sp} {i:Nat} (hi:i < P.length) (h:zCb L (pa P i).s=false):(P.all fun x=>zCb L x.s)=false:=by
 cases e:(P.all fun x=>zCb L x.s) with
 | false=>rfl
 | true=>rw [List.all_eq_true] at e;have:=e _ (List.mem_of_getElem? (zEk hi));rw [h] at this;cases this
set_option maxHeartbeats 1600000 in
theorem zFs (A:Option Addr) (n c:Nat) (L:List Fg) (re lo:Int) (b:Nat) (B:Option Addr) (m d:Nat) (P:List Sp) (w:World) (hA:Fgs w A n L) (hk:Blk w b 24 #[.slice A n c,.int .i64 re,.int .i64 lo]) (hP:Stps w B m P) (hf:∀x∈P,1≤x.s.f∧x.s.f≤(n:Int)) :
  Calls Tryz.prog 157 #[.slice B m d,.func (.func 114) #[] #[.pointer (some ⟨b,0,none⟩)]] w
   fun e w'=>∃k:Int,e=.returned (.int .i64 k)∧IdxP (P.all fun x=>zCb L x.s) k∧Below w.heap.size w w':=by
 have hle:=hP.le
 have HLEN:=Lib.hid hP.len
 have HF:=Lib.hid hf
 clear hf
 go_enter Tryz.func157,Tryz.ntmps157
 go_wp2_with fail
 go_loopw [8] (fun v wr=>∃i:Nat,i≤m∧v=.int .i64 i∧Below w.heap.size w wr∧Hid (∀j:Nat,j < i→zCb L (pa P j).s=true)) (fun v _=>m-(intOf v).toNat)
 case atStart=>exact ⟨0,Nat.zero_le _,rfl,Below.refl _ _,Lib.hid (fun j hj=>by omega)⟩
 case round =>
  obtain ⟨i,hi,rfl,hbr,HS⟩:=hrel
  by_cases hlt:i < m
  ·obtain ⟨g,p,rfl,hg,⟨x0,x1,x2,x3,x4⟩,_⟩:=(hP.below hbr).at_ hlt
   have j0:(0:Int)≤(i:Int):=by omega
   have j1:(i:Int) < (m:Int):=by omega
   have hil:i < P.length:=by rw [HLEN.out];exact hlt
   have hfi:=HF.out _ (List.mem_of_getElem? (zEk hil))
   obtain ⟨q,hq⟩:∃q,zCb L (pa P i).s=q:=⟨_,rfl⟩
   have HQ:=Lib.hid hq
   have HC:=Lib.hid (can1_is hq A n c re lo b wr (hA.below hbr) (hk.below hbr hk.lt) hfi.1 hfi.2)
   have HIL:=Lib.hid hil
   clear hq hfi hil
   generalize pa P i=x at x0 x1 x2 x3 x4 HC
   obtain ⟨⟨xf,xl,xfar,xpc⟩,xo⟩:=x
   simp only at x0 x1 x2 x3 x4
   cases q with
   | true =>
    have HS1:=Lib.hid (show ∀j:Nat,j < i+1→zCb L (pa P j).s=true from fun j hj=>by
     rcases Nat.decEq j i with e | e
     ·exact HS.out j (by omega)
     ·subst e;exact HQ.out)
    clear HS HQ HIL
    go_wp2_with fail
    refine HC.out.mono ?_
    rintro e w5 ⟨rfl,hb5⟩
    have hb6:=zAa hbr hb5 hbr.size
    clear x0 x1 x2 x3 x4
    go_wp2_with fail
    go_roundw
    case rel=>exact ⟨i+1,by omega,by go_num,hb6,HS1⟩
    case measure=>simp [intOf];omega
   | false =>
    have hr:=Lib.hid (show IdxP (P.all fun x=>zCb L x.s) (i:Int) by rw [all_simp_no HIL.out HQ.out];unfold IdxP;rw [if_neg (by decide)];omega)
    clear HS HQ HIL
    go_wp2_with fail
    refine HC.out.mono ?_
    rintro e w5 ⟨rfl,hb5⟩
    have hb6:=zAa hbr hb5 hbr.size
    clear x0 x1 x2 x3 x4
    go_wp2_with fail
    go_ret
    exact ⟨_,rfl,hr.out,hb6⟩
  ·have j1:¬(i:Int) < (m:Int):=by omega
   have hr:=Lib.hid (show IdxP (P.all fun x=>zCb L x.s) (-1) by rw [all_simp (fun j hj=>HS.out j (by rw [HLEN.out] at hj;omega))];unfold IdxP;rw [if_pos rfl])
   clear HS
   go_wp2_with fail
   go_ret
   exact ⟨_,rfl,hr.out,hbr⟩
theorem zEf (A:Option Addr) (n c:Nat) (L:List Fg) (re lo:Int) (b:Nat) (B:Option Addr) (m d:Nat) (P:List Sp) (w:World) (hA:Fgs w A n L) (hk:Blk w b 24 #[.slice A n c,.int .i64 re,.int .i64 lo]) (hP:Stps w B m P) (hf:∀x∈P,1≤x.s.f∧x.s.f≤(n:Int)) :
  Calls Tryz.prog 113 #[.slice B m d,.func (.func 114) #[] #[.pointer (some ⟨b,0,none⟩)]] w
   fun e w'=>e=.returned (.bool (!(P.all fun x=>zCb L x.s)))∧Below w.heap.size w w':=by
 have HC:=Lib.hid (zFs A n c L re lo b B m d P w hA hk hP hf)
 go_enter Tryz.func113,Tryz.ntmps113
 go_wp2_with fail
 refine HC.out.mono ?_
 rintro e w2 ⟨k,rfl,hk2,hb2⟩
 have HK:=Lib.hid hk2
 clear hk2
 go_wp2_with fail
 go_ret
 refine ⟨retB ?_,hb2⟩
 have h:=HK.out
 unfold IdxP at h
 cases hq:(P.all fun x=>zCb L x.s) with
 | true=>rw [hq,if_pos rfl] at h;simp [h]
 | false=>rw [hq] at h;simp at h;simp [h]
theorem containsS_is {L:List Fg} {P:List Sp} {q:Bool} (h:(P.all fun x=>zCb L x.s)=q) (A:Option Addr) (n c:Nat) (re lo:Int) (b:Nat) (B:Option Addr) (m d:Nat) (w:World) (hA:Fgs w A n L) (hk:Blk w b 24 #[.slice A n c,.int .i64 re,.int .i64 lo]) (hP:Stps w B m P) (hf:∀x∈P,1≤x.s.f∧x.s.f≤(n:Int)) :
  Calls Tryz.prog 113 #[.slice B m d,.func (.func 114) #[] #[.pointer (some ⟨b,0,none⟩)]] w
   fun e w'=>e=.returned (.bool (!q))∧Below w.heap.size w w':=by
 subst h;exact zEf A n c L re lo b B m d P w hA hk hP hf
end Go.Proofs.YtlmdfmnbcndhoaaGreatDoor
namespace Go.Proofs.YtlmdfmnbcndhoaaGreatDoor
open Go.RowKit
theorem rightB_from {k:Nat} {o:Og} (h:zAm k o=true):0≤o.fr.f∧o.fr.f≤(k:Int):=by
 have hk:=zBW h
 by_cases e:o.kind=3∨o.kind=5∨o.kind=6∨o.kind=7
 ·have:=zAz.1 (hk.2.2.2.2.2 e);omega
 ·have h5:zDx k o=true:=by unfold zAm at h;simp only [Bool.and_eq_true] at h;exact h.2
  have hz:o.fr=s0:=by
   unfold zDx at h5
   by_cases e1:o.kind=1∨o.kind=2∨o.kind=8
   ·rw [if_pos e1] at h5;simp only [Bool.and_eq_true] at h5;exact sgB_iff.1 h5.2
   ·rw [if_neg e1] at h5
    by_cases e2:o.kind=4
    ·rw [if_pos e2] at h5;exact sgB_iff.1 h5
    ·omega
  rw [hz];simp [s0]
set_option maxHeartbeats 3200000 in
theorem notes_can (A:Option Addr) (n c:Nat) (L:List Fg) (re lo:Int) (o:Og) (B:Option Addr) (m d:Nat) (w:World) (hA:Fgs w A n L) (hO:OpIn w o B m d) (hr:zAm n o=true) :
  Calls Tryz.prog 67 #[frV A n c re lo,opV o B m d] w fun e w'=>e=.returned (.bool (canB L o))∧Below w.heap.size w w':=by
 have hle:=hA.le
 obtain ⟨h1,h8,hf1,hf2,hpn,_⟩:=zBW hr
 obtain ⟨hff1,hff2⟩:=rightB_from hr
 have hP:=hO.path
 have hpf:∀x∈o.path,1≤x.s.f∧x.s.f≤(n:Int):=fun x hx=>by have:=zAz.1 (hpn x hx);exact ⟨this.1,this.2.1⟩
 have hcan:canB L o=(decide ((fa L (o.f-1).toNat).p=1)&&(decide (¬0 < o.fr.f)||zCb L o.fr)&&o.path.all fun x=>zCb L x.s):=rfl
 obtain ⟨kind,f,⟨ff,fl,ffar,fpc⟩,path,over⟩:=o
 simp only at h1 h8 hf1 hf2 hff1 hff2 hP hpf hcan ⊢
 have hb0:Below w.heap.size w ((w.alloc (.cells #[.slice A n c,.int .i64 re,.int .i64 lo] 24)).alloc (.cells #[.int .i64 kind,.int .i64 f,.int .i64 ff,.int .i64 fl,.bool ffar,.int .i64 fpc,.slice B m d,.bool over] 32)):=((Below.refl _ _).alloc (Nat.le_refl _) _).alloc (by simp) _
 have hk0:=(Blk.new w 24 #[.slice A n c,.int .i64 re,.int .i64 lo]).alloc (.cells #[.int .i64 kind,.int .i64 f,.int .i64 ff,.int .i64 fl,.bool ffar,.int .i64 fpc,.slice B m d,.bool over] 32)
 have hk1:Blk ((w.alloc (.cells #[.slice A n c,.int .i64 re,.int .i64 lo] 24)).alloc (.cells #[.int .i64 kind,.int .i64 f,.int .i64 ff,.int .i64 fl,.bool ffar,.int .i64 fpc,.slice B m d,.bool over] 32)) (w.heap.size+1) 32 #[.int .i64 kind,.int .i64 f,.int .i64 ff,.int .i64 fl,.bool ffar,.int .i64 fpc,.slice B m d,.bool over]:=heap_alloc2_new w _ _
 have hA0:=hA.below hb0
 have hP0:=hP.below hb0
 obtain ⟨i,hi⟩:∃i:Nat,f=(i:Int)+1:=⟨(f-1).toNat,by omega⟩
 have hin:i < n:=by omega
 obtain ⟨g,p,hAe,hg,⟨x0,_,_⟩,_⟩:=hA0.at_ hin
 rw [show (f-1).toNat=i by omega] at hcan
 have q1:wrap64 (f-1)=(i:Int):=by unfold wrap64;omega
 have q2:f-1=(i:Int):=by omega
 have j0:(0:Int)≤(i:Int):=by omega
 have j1:(i:Int) < (n:Int):=by omega
 generalize fa L i=x at x0 hcan
 obtain ⟨xp,xr,xd⟩:=x
 simp only at x0 hcan
 obtain ⟨qa,hqa⟩:∃q,(path.all fun x=>zCb L x.s)=q:=⟨_,rfl⟩
 have HCA:=Lib.hid (fun wx (hAx:Fgs wx A n L) hkx hPx=>containsS_is hqa A n c re lo w.heap.size B m d wx hAx hkx hPx hpf)
 rw [hqa] at hcan
 obtain ⟨qs,hqs⟩:∃q,zCb L ⟨ff,fl,ffar,fpc⟩=q:=⟨_,rfl⟩
 have HFF:=Lib.hid hff2
 have HCS:=Lib.hid (fun wx (hAx:Fgs wx A n L) h1=>simple_is hqs A n c re lo wx hAx h1 HFF.out)
 rw [hqs] at hcan
 clear hqa hqs hi hin hpn hpf h1 h8 hf1 hf2 hO hP hA
 by_cases e1:xp=1
 ·subst e1
  by_cases e2:0 < ff
  ·have HE2:=Lib.hid e2
   cases qs with
   | true =>
    have hr2:=Lib.hid (hcan.trans (show _=qa by simp))
    clear hcan
    subst hAe
    go_enter Tryz.func67,Tryz.ntmps67
    go_wp2_with fail
    generalize (w.alloc (.cells #[.slice (some ⟨g,p,none⟩) n c,.int .i64 re,.int .i64 lo] 24)).alloc (.cells #[.int .i64 kind,.int .i64 f,.int .i64 ff,.int .i64 fl,.bool ffar,.int .i64 fpc,.slice B m d,.bool over] 32)=W at hb0 hk0 hk1 hA0 hP0 ⊢
    refine (HCS.out _ hA0 (show (1:Int)≤ff by have:=HE2.out;omega)).mono ?_
    rintro e w2 ⟨rfl,hb2⟩
    have hb3:=zAa hb0 hb2 hb0.size
    have hf2:=hk0.below hb2 hk0.lt
    have ho2:=hk1.below hb2 hk1.lt
    have e6:w2.cell? ⟨w.heap.size+1,6,none⟩=some (.slice B m d):=(ho2.cell 6).trans rfl
    have hA2:=hA0.below hb2
    have hP2:=hP0.below hb2
    go_wp2_with fail
    refine (HCA.out _ hA2 hf2 hP2).mono ?_
    rintro e w4 ⟨rfl,hb4⟩
    have hb5:=zAa hb3 hb4 hb3.size
    clear e6
    go_wp2_with fail
    go_ret
    exact ⟨retB (by rw [hr2.out]),hb5⟩
   | false =>
    have hr2:=Lib.hid (hcan.trans (show _=false by simp [e2]))
    clear hcan
    subst hAe
    go_enter Tryz.func67,Tryz.ntmps67
    go_wp2_with fail
    generalize (w.alloc (.cells #[.slice (some ⟨g,p,none⟩) n c,.int .i64 re,.int .i64 lo] 24)).alloc (.cells #[.int .i64 kind,.int .i64 f,.int .i64 ff,.int .i64 fl,.bool ffar,.int .i64 fpc,.slice B m d,.bool over] 32)=W at hb0 hk0 hk1 hA0 hP0 ⊢
    refine (HCS.out _ hA0 (show (1:Int)≤ff by have:=HE2.out;omega)).mono ?_
    rintro e w2 ⟨rfl,hb2⟩
    have hb3:=zAa hb0 hb2 hb0.size
    go_wp2_with fail
    go_ret
    exact ⟨retB (by rw [hr2.out]),hb3⟩
  ·have hr2:=Lib.hid (hcan.trans (show _=qa by simp [e2]))
   clear hcan
   subst hAe
   go_enter Tryz.func67,Tryz.ntmps67
   go_wp2_with fail
   refine (HCA.out _ hA0 hk0 hP0).mono ?_
   rintro e w4 ⟨rfl,hb4⟩
   have hb5:=zAa hb0 hb4 hb0.size
   go_wp2_with fail
   go_ret
   exact ⟨retB (by rw [hr2.out]),hb5⟩
 ·have k1:(xp != 1)=true:=by simpa using e1
  have hr2:=Lib.hid (hcan.trans (show _=false by simp [e1]))
  clear hcan e1
  subst hAe
  go_enter Tryz.func67,Tryz.ntmps67
  go_wp2_with fail
  go_ret
  exact ⟨retB (by rw [hr2.out]),hb0⟩
def zAP (b:Bool):List UInt8:=if b then [111] else [117]
def zDq (L:List Fg) (s:Sg):List UInt8:=nmF L s.f++(if s.far then [102] else [110])
theorem notes_letter (b:Bool) (w:World):Calls Tryz.prog 115 #[.bool b] w fun e w'=>e=.returned (.string (bA (zAP b)))∧w'=w:=by
 have x0:∀w:World,(Instr.slice 9 (.string (bA (zAY true))) none (some (.int .i64 1)) none).run Tryz.prog w=.ok (.string (bA [111])) w:=fun _=>by kernel_rfl
 have x1:∀w:World,(Instr.slice 9 (.string (bA (zAY false))) none (some (.int .i64 1)) none).run Tryz.prog w=.ok (.string (bA [117])) w:=fun _=>by kernel_rfl
 cases b
 all_goals
  go_enter Tryz.func115,Tryz.ntmps115
  go_wp2_with fail
  refine (zHH _ _).mono ?_
  rintro e w2 ⟨rfl,rfl⟩
  go_wp2_with fail
  go_ret
  exact ⟨rfl,rfl⟩
end Go.Proofs.YtlmdfmnbcndhoaaGreatDoor
namespace Go.Proofs.YtlmdfmnbcndhoaaGreatDoor
open Go.RowKit
theorem zCl {L:List Fg} {re lo:Int} (hv:frOk L re lo) {s:Sg} (h1:1≤s.f) (h2:s.f≤(L.length:Int)):(zDq L s).length≤44:=by
 have:=zBx hv h1 h2
 unfold zDq
 split<;>simp<;>omega
set_option maxHeartbeats 3200000 in
set_option maxRecDepth 100000 in
theorem notes_short (A:Option Addr) (n c:Nat) (L:List Fg) (re lo:Int) (s:Sg) (w:World) (hA:Fgs w A n L) (hv:frOk L re lo) (h1:1≤s.f) (h2:s.f≤(n:Int)) :
  Calls Tryz.prog 116 #[frV A n c re lo,sgV s] w fun e w'=>e=.returned (.string (bA (zDq L s)))∧Below w.heap.size w w':=by
 have hlN:=zBx hv h1 (by rw [hA.len];exact h2)
 obtain ⟨f,l,far,pc⟩:=s
 simp only at h1 h2 hlN ⊢
 have hx:∀w:World,(Instr.slice 9 (.string (bA (zCs far))) none (some (.int .i64 1)) none).run Tryz.prog w=.ok (.string (bA (if far then [102] else [110]))) w:=fun _=>by
  cases far
  ·kernel_rfl
  ·kernel_rfl
 have hf:zDq L ⟨f,l,far,pc⟩=nmF L f++(if far then [102] else [110]):=rfl
 have hS:(if far then [102] else [110]:List UInt8).length≤1:=by cases far<;>simp
 generalize (if far then [102] else [110]:List UInt8)=SH at hx hf hS
 obtain ⟨SD,hSD⟩:∃T,zCs far=T:=⟨_,rfl⟩
 rw [hSD] at hx
 obtain ⟨NM,hNM⟩:∃NM,nmF L f=NM:=⟨_,rfl⟩
 rw [hNM] at hf hlN
 obtain ⟨T1,hT1⟩:∃T,NM++SH=T:=⟨_,rfl⟩
 have s1:=zAL hT1 _ _ rfl rfl (by omega) (by omega)
 rw [hT1] at hf
 have HNM:=Lib.hid hNM
 have HSD:=Lib.hid hSD
 have HF:=Lib.hid hf
 have H12:=Lib.hid (show 1≤f∧f≤(n:Int) from ⟨h1,h2⟩)
 have hb0:Below w.heap.size w ((w.alloc (.cells #[.slice A n c,.int .i64 re,.int .i64 lo] 24)).alloc (.cells #[.int .i64 f,.int .i64 l,.bool far,.int .i64 pc] 29)):=((Below.refl _ _).alloc (Nat.le_refl _) _).alloc (by simp) _
 have hk0:=(Blk.new w 24 #[.slice A n c,.int .i64 re,.int .i64 lo]).alloc (.cells #[.int .i64 f,.int .i64 l,.bool far,.int .i64 pc] 29)
 have hk1:Blk ((w.alloc (.cells #[.slice A n c,.int .i64 re,.int .i64 lo] 24)).alloc (.cells #[.int .i64 f,.int .i64 l,.bool far,.int .i64 pc] 29)) (w.heap.size+1) 29 #[.int .i64 f,.int .i64 l,.bool far,.int .i64 pc]:=heap_alloc2_new w _ _
 have hA0:=hA.below hb0
 clear hf hNM hT1 hlN h1 h2 hSD hS hA
 go_enter Tryz.func116,Tryz.ntmps116
 go_wp2_with fail
 generalize (w.alloc (.cells #[.slice A n c,.int .i64 re,.int .i64 lo] 24)).alloc (.cells #[.int .i64 f,.int .i64 l,.bool far,.int .i64 pc] 29)=W at hb0 hk0 hk1 hA0 ⊢
 have KP:=Lib.hid (show ∀wx,Below W.heap.size W wx→(Below W.heap.size W wx∧wx.cell? ⟨w.heap.size,0,none⟩=some (.slice A n c)∧wx.cell? ⟨w.heap.size,1,none⟩=some (.int .i64 re)∧wx.cell? ⟨w.heap.size,2,none⟩=some (.int .i64 lo)∧wx.cell? ⟨w.heap.size+1,0,none⟩=some (.int .i64 f)∧wx.cell? ⟨w.heap.size+1,1,none⟩=some (.int .i64 l)∧wx.cell? ⟨w.heap.size+1,2,none⟩=some (.bool far)∧wx.cell? ⟨w.heap.size+1,3,none⟩=some (.int .i64 pc)) from
  fun wx h=>⟨h,((hk0.below h hk0.lt).cell 0).trans rfl,((hk0.below h hk0.lt).cell 1).trans rfl,((hk0.below h hk0.lt).cell 2).trans rfl,((hk1.below h hk1.lt).cell 0).trans rfl,((hk1.below h hk1.lt).cell 1).trans rfl,((hk1.below h hk1.lt).cell 2).trans rfl,((hk1.below h hk1.lt).cell 3).trans rfl⟩)
 first
  | go_region_held3 (fun wx=>Below W.heap.size W wx∧wx.cell? ⟨w.heap.size,0,none⟩=some (.slice A n c)∧wx.cell? ⟨w.heap.size,1,none⟩=some (.int .i64 re)∧wx.cell? ⟨w.heap.size,2,none⟩=some (.int .i64 lo)∧wx.cell? ⟨w.heap.size+1,0,none⟩=some (.int .i64 f)∧wx.cell? ⟨w.heap.size+1,1,none⟩=some (.int .i64 l)∧wx.cell? ⟨w.heap.size+1,2,none⟩=some (.bool far)∧wx.cell? ⟨w.heap.size+1,3,none⟩=some (.int .i64 pc)) (first | assumption | exact KP.out _ (Below.refl _ _).drew | exact KP.out _ (zAa (And.left (by assumption)) (by assumption) (Below.size (And.left (by assumption)))))
    (first
     | (go_at_call 107;refine (zDd HNM.out _ (hA0.below (And.left (by assumption))) hv H12.out.1 H12.out.2).mono ?_;rintro e wa ⟨rfl,hba⟩)
     | (go_at_call 155;refine (side_of HSD.out _).mono ?_;rintro e wc ⟨rfl,rfl⟩))
  | fail
 all_goals
  have hbf:=zAa hb0 (And.left (show Below W.heap.size W _∧_ from by assumption)) hb0.size
  go_wp2_with fail
  go_ret
  exact ⟨retS (by rw [HF.out]),hbf⟩
theorem short_of {A:Option Addr} {n c:Nat} {L:List Fg} {re lo:Int} {s:Sg} {S:List UInt8} (h:zDq L s=S) (w:World) (hA:Fgs w A n L) (hv:frOk L re lo) (h1:1≤s.f) (h2:s.f≤(n:Int)) :
  Calls Tryz.prog 116 #[frV A n c re lo,sgV s] w fun e w'=>e=.returned (.string (bA S))∧Below w.heap.size w w':=by
 subst h;exact notes_short A n c L re lo s w hA hv h1 h2
theorem zCM {b:Bool} {S:List UInt8} (h:zAP b=S) (w:World):Calls Tryz.prog 115 #[.bool b] w fun e w'=>e=.returned (.string (bA S))∧w'=w:=by
 subst h;exact notes_letter b w
end Go.Proofs.YtlmdfmnbcndhoaaGreatDoor
