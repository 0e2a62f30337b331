/-
  Contract: the program's ReadSigns. Conditions: the frame reads; the library's tables stand.
  Contracts: the program's two notations: which is chosen, whether one can say some operations. Conditions: frame and operations read; the operations can be written.
  Contracts: the program's notations read and write; what they read can be written, and is not long. Conditions: the frame reads; the library's tables stand.
-/
import Derived.Test.YtlmdfmnbcndhoaaGreatDoorWr24
namespace Go.Proofs.YtlmdfmnbcndhoaaGreatDoor
open Go.RowKit
noncomputable def rsE (L:List Fg) (re lo:Int) (S:List UInt8):Int:=if zAD L re lo S=0 then itE L S else zAD L re lo S
noncomputable def rsO (L:List Fg) (re lo:Int) (S:List UInt8):List Og:=if zAD L re lo S=0 then itO L S else []
set_option maxHeartbeats 6400000 in
theorem zGZ (F:Fm) (S:List UInt8) (w:World) (hA:Fgs w F.A F.n F.L) (hc:F.n≤F.c) (ht:Tabs w) :
  Calls Tryz.prog 31 #[frV F.A F.n F.c F.re F.lo,.string (bA S)] w (zFG w (rsO F.L F.re F.lo S) (rsE F.L F.re F.lo S)):=by
 have hb0:Below w.heap.size w (w.alloc (.cells #[.slice F.A F.n F.c,.int .i64 F.re,.int .i64 F.lo] 24)):=(Below.refl _ _).alloc (Nat.le_refl _) _
 have hk0:Blk (w.alloc (.cells #[.slice F.A F.n F.c,.int .i64 F.re,.int .i64 F.lo] 24)) w.heap.size 24 #[.slice F.A F.n F.c,.int .i64 F.re,.int .i64 F.lo]:=Blk.new _ _ _
 have HA:=Lib.hid hA
 have HT:=Lib.hid ht
 obtain ⟨E,hE⟩:∃E,zAD F.L F.re F.lo S=E:=⟨_,rfl⟩
 have HBG:=Lib.hid (fun wx (hx:Fgs wx F.A F.n F.L)=>zDj F.A F.n F.c F.L F.re F.lo S wx hx hc)
 simp only [hE] at HBG
 have HE:=Lib.hid hE
 clear hA ht hE
 go_enter Tryz.func31,Tryz.ntmps31
 go_wp2_with fail
 generalize w.alloc (.cells #[.slice F.A F.n F.c,.int .i64 F.re,.int .i64 F.lo] 24)=Y at hb0 hk0 ⊢
 refine (HBG.out Y (HA.out.below hb0)).mono ?_
 rintro e Y2 ⟨rfl,hb2⟩
 have hf2:=hk0.below hb2 hk0.lt
 have hb3:=zAa hb0 hb2 hb0.size
 clear hk0 hb0 hb2 HBG
 by_cases h0:E=0
 ·subst h0
  have hS:=(zBY HE.out).1
  have HR:=Lib.hid (show rsE F.L F.re F.lo S=itE F.L S∧rsO F.L F.re F.lo S=itO F.L S by unfold rsE rsO;rw [HE.out];exact ⟨rfl,rfl⟩)
  have HPA:=Lib.hid (zGY F S Y2 (HA.out.below hb3) (by omega) (HT.out.below hb3))
  have v0:Y2.cell? ⟨w.heap.size,0,none⟩=some (.slice F.A F.n F.c):=(hf2.cell 0).trans rfl
  have v1:Y2.cell? ⟨w.heap.size,1,none⟩=some (.int .i64 F.re):=(hf2.cell 1).trans rfl
  have v2:Y2.cell? ⟨w.heap.size,2,none⟩=some (.int .i64 F.lo):=(hf2.cell 2).trans rfl
  have hz:w.heap.size≤Y2.heap.size:=hb3.size
  have HB3:=Lib.hid hb3
  clear hS hf2 hb3
  go_wp2_with fail
  refine HPA.out.mono ?_
  rintro e Y3 ⟨B,m,d,Es,rfl,hO,hm,hE,hb4⟩
  have HF:=Lib.hid (show zFG w (rsO F.L F.re F.lo S) (rsE F.L F.re F.lo S) (.returned (.tuple #[.slice B m d,.int .i64 (itE F.L S)])) Y3 by rw [HR.out.1,HR.out.2];exact ⟨B,m,d,Es,rfl,hO,hm,hE.mono hz,zAa HB3.out hb4 HB3.out.size⟩)
  clear hO hE hb4 hm HR
  go_wp2_with fail
  go_ret2
  exact HF.out
 ·have HF:=Lib.hid (show zFG w (rsO F.L F.re F.lo S) (rsE F.L F.re F.lo S) (.returned (.tuple #[.slice none 0 0,.int .i64 E])) Y2 by
   have h1:rsE F.L F.re F.lo S=E∧rsO F.L F.re F.lo S=[]:=by unfold rsE rsO;rw [HE.out,if_neg h0,if_neg h0];exact ⟨rfl,rfl⟩
   rw [h1.1,h1.2]
   exact ⟨none,0,0,[],rfl,rfl,by omega,OpsOwn.none_ _ _,hb3⟩)
  have k0:(E != 0)=true:=by simpa using h0
  clear hf2 hb3 h0
  go_wp2_with fail
  go_ret2
  exact HF.out
end Go.Proofs.YtlmdfmnbcndhoaaGreatDoor
namespace Go.Proofs.YtlmdfmnbcndhoaaGreatDoor
open Go.RowKit
theorem build_iw (w:World):(Instr.build 183 #[]).run Tryz.prog w=.ok (.agg #[]) w:=run_build w _ _ _ (by kernel_rfl)
theorem build_is (w:World):(Instr.build 184 #[]).run Tryz.prog w=.ok (.agg #[]) w:=run_build w _ _ _ (by kernel_rfl)
def notV (k:Int):Value:=if k=1 then .iface 183 (.agg #[]) else if k=2 then .iface 184 (.agg #[]) else .nilIface
theorem notes_chosen (k:Int) (w:World):Calls Tryz.prog 89 #[.int .i64 k] w fun e w'=>e=.returned (notV k)∧w'=w:=by
 have x1:=build_iw
 have x2:=build_is
 by_cases h1:k=1
 ·subst h1
  go_enter Tryz.func89,Tryz.ntmps89
  go_wp2_with fail
  go_ret
  exact ⟨rfl,rfl⟩
 ·by_cases h2:k=2
  ·subst h2
   go_enter Tryz.func89,Tryz.ntmps89
   go_wp2_with fail
   go_ret
   exact ⟨rfl,rfl⟩
  ·have HV:=Lib.hid (show notV k=.nilIface by unfold notV;rw [if_neg h1,if_neg h2])
   have m1:(k==1)=false:=by simpa using h1
   have m2:(k==2)=false:=by simpa using h2
   rw [HV.out]
   clear h1 h2
   go_enter Tryz.func89,Tryz.ntmps89
   go_wp2_with fail
   go_ret
   exact ⟨rfl,rfl⟩
set_option maxHeartbeats 800000 in
theorem notes_all1 (A:Option Addr) (n c:Nat) (L:List Fg) (re lo:Int) (o:Og) (B:Option Addr) (m d:Nat) (b:Nat) (w:World) (hA:Fgs w A n L) (hk:Blk w b 24 #[.slice A n c,.int .i64 re,.int .i64 lo]) (hO:OpIn w o B m d) (hr:zAm n o=true) :
  Calls Tryz.prog 141 #[opV o B m d,.pointer (some ⟨b,0,none⟩)] w fun e w'=>e=.returned (.bool (!canB L o))∧Below w.heap.size w w':=by
 have hb0:Below w.heap.size w (w.alloc (.cells #[.int .i64 o.kind,.int .i64 o.f,.int .i64 o.fr.f,.int .i64 o.fr.l,.bool o.fr.far,.int .i64 o.fr.pc,.slice B m d,.bool o.over] 32)):=(Below.refl _ _).alloc (Nat.le_refl _) _
 have hk2:=hk.alloc (.cells #[.int .i64 o.kind,.int .i64 o.f,.int .i64 o.fr.f,.int .i64 o.fr.l,.bool o.fr.far,.int .i64 o.fr.pc,.slice B m d,.bool o.over] 32)
 have y0:=(hk2.cell 0).trans rfl
 have y1:=(hk2.cell 1).trans rfl
 have y2:=(hk2.cell 2).trans rfl
 have HC:=Lib.hid (notes_can A n c L re lo o B m d _ (hA.below hb0) (hO.below hb0) hr)
 go_enter Tryz.func141,Tryz.ntmps141
 go_wp2_with fail
 refine HC.out.mono ?_
 rintro e w2 ⟨rfl,hb2⟩
 have hb3:=zAa hb0 hb2 hb0.size
 clear y0 y1 y2
 go_wp2_with fail
 go_ret
 exact ⟨rfl,hb3⟩
theorem all1_is {L:List Fg} {o:Og} {q:Bool} (h:canB L o=q) (A:Option Addr) (n c:Nat) (re lo:Int) (B:Option Addr) (m d:Nat) (b:Nat) (w:World) (hA:Fgs w A n L) (hk:Blk w b 24 #[.slice A n c,.int .i64 re,.int .i64 lo]) (hO:OpIn w o B m d) (hr:zAm n o=true) :
  Calls Tryz.prog 141 #[opV o B m d,.pointer (some ⟨b,0,none⟩)] w fun e w'=>e=.returned (.bool (!q))∧Below w.heap.size w w':=by
 subst h;exact notes_all1 A n c L re lo o B m d b w hA hk hO hr
theorem all_can {L:List Fg} {Es:List Oe} (h:∀j,j < Es.length→canB L (oa Es j).o=true):(Es.all fun x=>canB L x.o)=true:=by
 rw [List.all_eq_true]
 intro x hx
 obtain ⟨i,hi⟩:=List.getElem?_of_mem hx
 have hlt:=(List.getElem?_eq_some_iff.1 hi).1
 have h3:=zCL hlt
 rw [hi] at h3
 injection h3 with h3
 rw [h3];exact h i hlt
theorem all_can_no {L:List Fg} {Es:List Oe} {i:Nat} (hi:i < Es.length) (h:canB L (oa Es i).o=false):(Es.all fun x=>canB L x.o)=false:=by
 cases e:(Es.all fun x=>canB L x.o) with
 | false=>rfl
 | true=>rw [List.all_eq_true] at e;have:=e _ (List.mem_of_getElem? (zCL hi));rw [h] at this;cases this
set_option maxHeartbeats 3200000 in
theorem zFH (A:Option Addr) (n c:Nat) (L:List Fg) (re lo:Int) (b:Nat) (B:Option Addr) (m d:Nat) (Es:List Oe) (w:World) (hA:Fgs w A n L) (hk:Blk w b 24 #[.slice A n c,.int .i64 re,.int .i64 lo]) (hP:Oprs w B m Es) (hf:∀i,i < Es.length→zAm n (oa Es i).o=true) :
  Calls Tryz.prog 174 #[.slice B m d,.func (.func 141) #[] #[.pointer (some ⟨b,0,none⟩)]] w
   fun e w'=>∃k:Int,e=.returned (.int .i64 k)∧IdxP (Es.all fun x=>canB L x.o) k∧Below w.heap.size w w':=by
 have hle:=hP.le
 have HLEN:=Lib.hid hP.len
 have HF:=Lib.hid hf
 clear hf
 go_enter Tryz.func174,Tryz.ntmps174
 go_wp2_with fail
 go_loopw [8] (fun v wr=>∃i:Nat,i≤m∧v=.int .i64 i∧Below w.heap.size w wr∧Hid (∀j:Nat,j < i→canB L (oa Es j).o=true)) (fun v _=>m-(intOf v).toNat)
 case atStart=>exact ⟨0,Nat.zero_le _,rfl,Below.refl _ _,Lib.hid (fun j hj=>by omega)⟩
 case round =>
  obtain ⟨i,hi,rfl,hbr,HS⟩:=hrel
  by_cases hlt:i < m
  ·obtain ⟨g,p,rfl,hg,⟨x0,x1,x2,x3,x4,x5,x6,x7⟩,hin⟩:=(hP.below hbr).at_ hlt
   have j0:(0:Int)≤(i:Int):=by omega
   have j1:(i:Int) < (m:Int):=by omega
   have hil:i < Es.length:=by rw [HLEN.out];exact hlt
   obtain ⟨q,hq⟩:∃q,canB L (oa Es i).o=q:=⟨_,rfl⟩
   have HQ:=Lib.hid hq
   have HC:=Lib.hid (all1_is hq A n c re lo _ _ _ b wr (hA.below hbr) (hk.below hbr hk.lt) hin (HF.out i hil))
   have HIL:=Lib.hid hil
   clear hq hil hin
   generalize oa Es i=x at x0 x1 x2 x3 x4 x5 x6 x7 HC
   obtain ⟨⟨kk,ff,⟨gf,gl,gfar,gpc⟩,path,vov⟩,B2,m2,d2⟩:=x
   simp only at x0 x1 x2 x3 x4 x5 x6 x7
   cases q with
   | true =>
    have HS1:=Lib.hid (show ∀j:Nat,j < i+1→canB L (oa Es j).o=true from fun j hj=>by
     rcases Nat.decEq j i with e | e
     ·exact HS.out j (by omega)
     ·subst e;exact HQ.out)
    clear HS HQ HIL
    go_wp2_with fail
    refine HC.out.mono ?_
    rintro e w5 ⟨rfl,hb5⟩
    have hb6:=zAa hbr hb5 hbr.size
    clear x0 x1 x2 x3 x4 x5 x6 x7
    go_wp2_with fail
    go_roundw
    case rel=>exact ⟨i+1,by omega,by go_num,hb6,HS1⟩
    case measure=>simp [intOf];omega
   | false =>
    have hr:=Lib.hid (show IdxP (Es.all fun x=>canB L x.o) (i:Int) by rw [all_can_no HIL.out HQ.out];unfold IdxP;rw [if_neg (by decide)];omega)
    clear HS HQ HIL
    go_wp2_with fail
    refine HC.out.mono ?_
    rintro e w5 ⟨rfl,hb5⟩
    have hb6:=zAa hbr hb5 hbr.size
    clear x0 x1 x2 x3 x4 x5 x6 x7
    go_wp2_with fail
    go_ret
    exact ⟨_,rfl,hr.out,hb6⟩
  ·have j1:¬(i:Int) < (m:Int):=by omega
   have hr:=Lib.hid (show IdxP (Es.all fun x=>canB L x.o) (-1) by rw [all_can (fun j hj=>HS.out j (by rw [HLEN.out] at hj;omega))];unfold IdxP;rw [if_pos rfl])
   clear HS
   go_wp2_with fail
   go_ret
   exact ⟨_,rfl,hr.out,hbr⟩
theorem zEg (A:Option Addr) (n c:Nat) (L:List Fg) (re lo:Int) (b:Nat) (B:Option Addr) (m d:Nat) (Es:List Oe) (w:World) (hA:Fgs w A n L) (hk:Blk w b 24 #[.slice A n c,.int .i64 re,.int .i64 lo]) (hP:Oprs w B m Es) (hf:∀i,i < Es.length→zAm n (oa Es i).o=true) :
  Calls Tryz.prog 140 #[.slice B m d,.func (.func 141) #[] #[.pointer (some ⟨b,0,none⟩)]] w
   fun e w'=>e=.returned (.bool (!(Es.all fun x=>canB L x.o)))∧Below w.heap.size w w':=by
 have HC:=Lib.hid (zFH A n c L re lo b B m d Es w hA hk hP hf)
 go_enter Tryz.func140,Tryz.ntmps140
 go_wp2_with fail
 refine HC.out.mono ?_
 rintro e w2 ⟨k,rfl,hk2,hb2⟩
 have HK:=Lib.hid hk2
 clear hk2
 go_wp2_with fail
 go_ret
 refine ⟨retB ?_,hb2⟩
 have h:=HK.out
 unfold IdxP at h
 cases hq:(Es.all fun x=>canB L x.o) with
 | true=>rw [hq,if_pos rfl] at h;simp [h]
 | false=>rw [hq] at h;simp at h;simp [h]
theorem ta_yes (w:World):(Instr.typeAssert (.iface 184 (.agg #[])) 138 184 true).run Tryz.prog w=.ok (.tuple #[.agg #[],.bool true]) w:=by kernel_rfl
theorem ta_no (w:World):(Instr.typeAssert (.iface 183 (.agg #[])) 138 184 true).run Tryz.prog w=.ok (.tuple #[.agg #[],.bool false]) w:=by kernel_rfl
/-- Whether a notation can say operations. -/
def allN (L:List Fg) (k:Int) (Es:List Oe):Bool:=if k=2 then Es.all (fun x=>canB L x.o) else true
set_option maxHeartbeats 1600000 in
set_option maxRecDepth 100000 in
theorem zFb (A:Option Addr) (n c:Nat) (L:List Fg) (re lo:Int) (k:Int) (hk:k=1∨k=2) (B:Option Addr) (m d:Nat) (Es:List Oe) (w:World) (hA:Fgs w A n L) (hP:Oprs w B m Es) (hf:∀i,i < Es.length→zAm n (oa Es i).o=true) :
  Calls Tryz.prog 90 #[notV k,frV A n c re lo,.slice B m d] w fun e w'=>e=.returned (.bool (allN L k Es))∧Below w.heap.size w w':=by
 have hb0:Below w.heap.size w (w.alloc (.cells #[.slice A n c,.int .i64 re,.int .i64 lo] 24)):=(Below.refl _ _).alloc (Nat.le_refl _) _
 have hk0:Blk (w.alloc (.cells #[.slice A n c,.int .i64 re,.int .i64 lo] 24)) w.heap.size 24 #[.slice A n c,.int .i64 re,.int .i64 lo]:=Blk.new _ _ _
 have HC:=Lib.hid (zEg A n c L re lo w.heap.size B m d Es _ (hA.below hb0) hk0 (hP.below hb0) hf)
 have ty:=ta_yes
 have tn:=ta_no
 rcases hk with rfl | rfl
 ·rw [show notV 1=.iface 183 (.agg #[]) from rfl]
  go_enter Tryz.func90,Tryz.ntmps90
  go_wp2_with fail
  go_ret
  exact ⟨rfl,hb0⟩
 ·rw [show notV 2=.iface 184 (.agg #[]) from rfl]
  have HR:=Lib.hid (show allN L 2 Es=(Es.all fun x=>canB L x.o) from rfl)
  go_enter Tryz.func90,Tryz.ntmps90
  go_wp2_with fail
  refine HC.out.mono ?_
  rintro e w2 ⟨rfl,hb2⟩
  have hb3:=zAa hb0 hb2 hb0.size
  go_wp2_with fail
  go_ret
  exact ⟨retB (by rw [HR.out]),hb3⟩
end Go.Proofs.YtlmdfmnbcndhoaaGreatDoor
namespace Go.Proofs.YtlmdfmnbcndhoaaGreatDoor
open Go.RowKit
/-- Operations that are read: right ones, of short paths. -/
def GoodO (L:List Fg) (o:Og):Prop:=zAm L.length o=true∧o.path.length≤10000
theorem path_len4 (Q:List (Nst×Bool)):4*Q.length≤(Q.flatMap stT).length:=by
 induction Q with
 | nil=>simp
 | cons x Q ih =>
  have:4≤(stT x).length:=by simp [stT,plT];omega
  rw [List.flatMap_cons,List.length_append,List.length_cons];omega
theorem nop_path {n:Nop} (h:okN n):4*n.path.length≤(tokN n).length:=by
 by_cases hp:n.path=[]
 ·simp [hp]
 ·have hk:n.kind=3:=by
   rcases h.2 with ⟨_,_,h,_⟩ | ⟨_,_,h⟩ | ⟨h,_⟩ | ⟨_,_,h⟩ | ⟨_,_,h⟩
   ·exact absurd h hp
   ·exact absurd h hp
   ·exact h
   ·exact absurd h hp
   ·exact absurd h hp
  have:=path_len4 n.path
  unfold tokN tlT
  rw [if_neg (by omega),if_pos hk]
  simp only [List.length_cons,List.length_append]
  omega
theorem par_good {L:List Fg} {S:List UInt8} (h:parE L S=0) (hS:S.length≤8000):GoodO L (parO L S):=by
 by_cases hx:∃n,okN n∧S=zDt n
 ·obtain ⟨n,h1,rfl⟩:=hx
  obtain ⟨h2,h3⟩:=zGl L h1
  rw [h2] at h
  have hl:zAA L n=false:=by cases e:zAA L n<;>simp [e] at h ⊢
  rw [hl] at h3
  rw [h3]
  refine ⟨(o_ok h1 hl).1,?_⟩
  show (n.path.map (pOf L)).length≤_
  rw [List.length_map]
  have h4:=nop_path h1
  have h5:=zFE (zDt n)
  rw [zDY] at h5
  omega
 ·rw [(par_no L fun n h1 h2=>hx ⟨n,h1,h2⟩).1] at h
  omega
theorem lines_good (L:List Fg):∀(ws:List (List UInt8)) (O:List Og),(∀p∈ws,p.length≤8000)→(∀o∈O,GoodO L o)→∀o∈(zBO L ws O).1,GoodO L o
 | [],O,_,hO=>hO
 | [p],O,_,hO=>by
  unfold zBO
  split
  ·exact hO
  ·simp
 | p :: q :: r,O,hw,hO=>by
  unfold zBO
  split
  ·rename_i h
   refine lines_good L (q :: r) _ (fun x hx=>hw x (List.mem_cons_of_mem _ hx)) fun o ho=>?_
   rcases List.mem_append.1 ho with h1 | h1
   ·exact hO o h1
   ·rw [List.mem_singleton.1 h1];exact par_good h (hw p (List.mem_cons_self ..))
  ·simp
theorem zHa (L:List Fg):∀(ws:List (List UInt8)) (O:List Og),(zBO L ws O).1.length≤O.length+ws.length
 | [],O=>by unfold zBO;simp
 | [p],O=>by unfold zBO;split<;>simp
 | p :: q :: r,O=>by
  unfold zBO
  split
  ·have:=zHa L (q :: r) (O++[parO L p])
   simp at this ⊢;omega
  ·simp
theorem rl_good {L:List Fg} {re lo:Int} {S:List UInt8}:(∀o∈(rlR L re lo S).1,GoodO L o)∧(rlR L re lo S).1.length≤8001:=by
 unfold rlR
 by_cases h:zAD L re lo S=0
 ·rw [if_pos h]
  have hS:=(zBY h).1
  refine ⟨lines_good L _ [] (fun p hp=>Nat.le_trans (zCm 10 S p hp) hS) (by simp),?_⟩
  have h1:=zHa L (splt 10 S) []
  have h2:(splt 10 S).length≤S.length+1:=by
   rw [zGf]
   have:=List.count_le_length (a:=(10:UInt8)) (l:=S)
   omega
  simp at h1
  omega
 ·rw [if_neg h];simp
theorem scanA_mem:∀{ws:List (List UInt8)} {ns:List Nop},zDa ws=some ns→ns.length=ws.length∧∀n∈ns,∃p∈ws,zAB p=some n
 | [],ns,h=>by
  simp [zDa] at h;subst h;simp
 | p :: ws,ns,h=>by
  rw [zDa] at h
  cases h1:zAB p with
  | none=>rw [h1] at h;simp at h
  | some n =>
   cases h2:zDa ws with
   | none=>rw [h1,h2] at h;simp at h
   | some ms =>
    rw [h1,h2] at h
    simp only [Option.some.injEq] at h
    subst h
    obtain ⟨h3,h4⟩:=scanA_mem h2
    refine ⟨by simp [h3],fun m hm=>?_⟩
    rcases List.mem_cons.1 hm with rfl | hm
    ·exact ⟨p,List.mem_cons_self ..,h1⟩
    ·obtain ⟨q,hq,he⟩:=h4 m hm
     exact ⟨q,List.mem_cons_of_mem _ hq,he⟩
theorem rs_good {L:List Fg} {re lo:Int} {S:List UInt8}:(∀o∈rsO L re lo S,GoodO L o)∧(rsO L re lo S).length≤8001:=by
 unfold rsO
 by_cases h:zAD L re lo S=0
 ·rw [if_pos h]
  have hS:=(zBY h).1
  unfold itO
  by_cases h0:S=[]
  ·rw [if_pos h0];simp
  ·rw [if_neg h0]
   cases hs:zDa (splt 32 S) with
   | none=>simp
   | some ns =>
    simp only
    by_cases hl:ns.any (zAA L)=true
    ·rw [if_pos hl];simp
    ·rw [if_neg hl]
     obtain ⟨h1,h2⟩:=scanA_mem hs
     refine ⟨fun o ho=>?_,?_⟩
     ·obtain ⟨n,hn,rfl⟩:=List.mem_map.1 ho
      obtain ⟨p,hp,hpn⟩:=h2 n hn
      have h3:=zFz hpn
      have h4:zAA L n=false:=by
       cases e:zAA L n with
       | false=>rfl
       | true=>exact absurd (List.any_eq_true.2 ⟨n,hn,e⟩) hl
      refine ⟨(o_ok h3.1 h4).1,?_⟩
      show (n.path.map (pOf L)).length≤_
      rw [List.length_map]
      have h5:=item_len h3.1
      rw [←h3.2.2] at h5
      have h6:=zCm 32 S p hp
      omega
     ·rw [List.length_map,h1]
      have:=zCn S
      omega
 ·rw [if_neg h];simp
/-- What the operations that are read keep to, in memory. -/
theorem zFc {L:List Fg} {w:World} {base:Nat} {B:Option Addr} {m d:Nat} {Es:List Oe} (h:OpsOwn w base B m d Es) (hm:m≤1000000) {O:List Og} (hE:List.map (fun x:Oe=>x.o) Es=O) (hg:∀o∈O,GoodO L o) (hl:O.length≤8001) :
  Oprs w B m Es∧m≤10000∧fitN Es∧(∀i,i < Es.length→zAm L.length (oa Es i).o=true)∧O.all (zAm L.length)=true:=by
 have hO:=h.oprs hm
 have hlen:Es.length=m:=hO.len
 have h1:Es.length=O.length:=by rw [←hE,List.length_map]
 have hmem:∀e∈Es,GoodO L e.o:=fun e he=>hg _ (by rw [←hE];exact List.mem_map_of_mem he)
 refine ⟨hO,by omega,fun e he=>?_,fun i hi=>?_,?_⟩
 ·have h2:=(h.ok e he).2.1.len
  have h3:=(hmem e he).2
  omega
 ·exact (hmem _ (List.mem_of_getElem? (zCL hi))).1
 ·rw [List.all_eq_true]
  intro o ho
  exact (hg o ho).1
set_option maxHeartbeats 1600000 in
theorem words_read (F:Fm) (S:List UInt8) (w:World) (hA:Fgs w F.A F.n F.L) (hc:F.n≤F.c) (ht:Tabs w) :
  Calls Tryz.prog 238 #[.agg #[],frV F.A F.n F.c F.re F.lo,.string (bA S)] w (zFG w (rlR F.L F.re F.lo S).1 (rlR F.L F.re F.lo S).2.2):=by
 have hb0:Below w.heap.size w ((w.alloc (.cells #[] 183)).alloc (.cells #[.slice F.A F.n F.c,.int .i64 F.re,.int .i64 F.lo] 24)):=((Below.refl _ _).alloc (Nat.le_refl _) _).alloc (by simp) _
 have HC:=Lib.hid (zGX F S _ (hA.below hb0) hc (ht.below hb0))
 have HB:=Lib.hid hb0
 clear hA ht hb0
 go_enter Tryz.func238,Tryz.ntmps238
 go_wp2_with fail
 refine HC.out.mono ?_
 rintro e Y ⟨B,m,d,Es,rfl,h1,h2,h3,h4⟩
 have HF:=Lib.hid (show zFG w (rlR F.L F.re F.lo S).1 (rlR F.L F.re F.lo S).2.2 (.returned (.tuple #[.slice B m d,.int .i64 (rlR F.L F.re F.lo S).2.2])) Y from ⟨B,m,d,Es,rfl,h1,h2,h3.mono HB.out.size,zAa HB.out h4 HB.out.size⟩)
 clear h1 h2 h3 h4
 go_wp2_with fail
 go_ret2
 exact HF.out
set_option maxHeartbeats 1600000 in
theorem signs_read (F:Fm) (S:List UInt8) (w:World) (hA:Fgs w F.A F.n F.L) (hc:F.n≤F.c) (ht:Tabs w) :
  Calls Tryz.prog 240 #[.agg #[],frV F.A F.n F.c F.re F.lo,.string (bA S)] w (zFG w (rsO F.L F.re F.lo S) (rsE F.L F.re F.lo S)):=by
 have hb0:Below w.heap.size w ((w.alloc (.cells #[] 184)).alloc (.cells #[.slice F.A F.n F.c,.int .i64 F.re,.int .i64 F.lo] 24)):=((Below.refl _ _).alloc (Nat.le_refl _) _).alloc (by simp) _
 have HC:=Lib.hid (zGZ F S _ (hA.below hb0) hc (ht.below hb0))
 have HB:=Lib.hid hb0
 clear hA ht hb0
 go_enter Tryz.func240,Tryz.ntmps240
 go_wp2_with fail
 refine HC.out.mono ?_
 rintro e Y ⟨B,m,d,Es,rfl,h1,h2,h3,h4⟩
 have HF:=Lib.hid (show zFG w (rsO F.L F.re F.lo S) (rsE F.L F.re F.lo S) (.returned (.tuple #[.slice B m d,.int .i64 (rsE F.L F.re F.lo S)])) Y from ⟨B,m,d,Es,rfl,h1,h2,h3.mono HB.out.size,zAa HB.out h4 HB.out.size⟩)
 clear h1 h2 h3 h4
 go_wp2_with fail
 go_ret2
 exact HF.out
set_option maxHeartbeats 1600000 in
theorem zHb (F:Fm) (B:Option Addr) (m d:Nat) (Es:List Oe) (w:World) (hA:Fgs w F.A F.n F.L) (hc:F.n≤F.c) (ht:Tabs w) (hv:frB F.L F.re F.lo=true) (hO:Oprs w B m Es) (hm:m≤10000) (hf:fitN Es) {O:List Og} (hE:List.map (fun x:Oe=>x.o) Es=O) (hr:O.all (zAm F.L.length)=true) :
  Calls Tryz.prog 239 #[.agg #[],frV F.A F.n F.c F.re F.lo,.slice B m d] w fun e w'=>e=.returned (.tuple #[.string (bA (zDr F.L O)),.int .i64 0])∧Below w.heap.size w w':=by
 have hb0:Below w.heap.size w ((w.alloc (.cells #[] 183)).alloc (.cells #[.slice F.A F.n F.c,.int .i64 F.re,.int .i64 F.lo] 24)):=((Below.refl _ _).alloc (Nat.le_refl _) _).alloc (by simp) _
 have h1:=notes_Lines F.A F.n F.c F.L F.re F.lo B m d Es _ (hA.below hb0) hc (hO.below hb0) hm hf (ht.below hb0)
 have h2:zBa F.L F.re F.lo (Es.map (·.o))=0:=by unfold zBa;rw [hE,hv,hr];rfl
 rw [h2,if_pos rfl,hE] at h1
 have HC:=Lib.hid h1
 have HB:=Lib.hid hb0
 clear hA ht hb0 h1 h2 hO
 go_enter Tryz.func239,Tryz.ntmps239
 go_wp2_with fail
 refine HC.out.mono ?_
 rintro e Y ⟨rfl,h4⟩
 have HF:=Lib.hid (zAa HB.out h4 HB.out.size)
 clear h4
 go_wp2_with fail
 go_ret2
 exact ⟨rfl,HF.out⟩
set_option maxHeartbeats 1600000 in
theorem zHc (F:Fm) (B:Option Addr) (m d:Nat) (Es:List Oe) (w:World) (hA:Fgs w F.A F.n F.L) (hc:F.n≤F.c) (hv:frB F.L F.re F.lo=true) (hO:Oprs w B m Es) (hm:m≤10000) (hf:fitN Es) {O:List Og} (hE:List.map (fun x:Oe=>x.o) Es=O) (hr:O.all (zAm F.L.length)=true) (hcn:O.all (canB F.L)=true) :
  Calls Tryz.prog 241 #[.agg #[],frV F.A F.n F.c F.re F.lo,.slice B m d] w fun e w'=>e=.returned (.tuple #[.string (bA (zGy F.L O)),.int .i64 0])∧Below w.heap.size w w':=by
 have hb0:Below w.heap.size w ((w.alloc (.cells #[] 184)).alloc (.cells #[.slice F.A F.n F.c,.int .i64 F.re,.int .i64 F.lo] 24)):=((Below.refl _ _).alloc (Nat.le_refl _) _).alloc (by simp) _
 have h1:=notes_Signs F.A F.n F.c F.L F.re F.lo B m d Es _ (hA.below hb0) hc (hO.below hb0) hm hf
 have h2:zBa F.L F.re F.lo O=0:=by unfold zBa;rw [hv,hr];rfl
 have h3:sgnE F.L F.re F.lo O=0:=by unfold sgnE;rw [h2,if_pos rfl,hcn,if_pos rfl]
 have h5:sgnS F.L F.re F.lo O=zGy F.L O:=by unfold sgnS;rw [h3,if_pos rfl]
 rw [hE,h3,h5] at h1
 have HC:=Lib.hid h1
 have HB:=Lib.hid hb0
 clear hA hb0 h1 h2 h3 h5 hO
 go_enter Tryz.func241,Tryz.ntmps241
 go_wp2_with fail
 refine HC.out.mono ?_
 rintro e Y ⟨rfl,h4⟩
 have HF:=Lib.hid (zAa HB.out h4 HB.out.size)
 clear h4
 go_wp2_with fail
 go_ret2
 exact ⟨rfl,HF.out⟩
end Go.Proofs.YtlmdfmnbcndhoaaGreatDoor
