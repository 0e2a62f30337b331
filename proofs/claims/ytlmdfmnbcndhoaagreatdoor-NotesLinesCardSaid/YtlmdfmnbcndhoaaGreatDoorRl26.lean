/-
  Lemmas, part 26. Conditions: each theorem's own.
-/
import Derived.Test.YtlmdfmnbcndhoaaGreatDoorRl25
import Derived.Test.YtlmdfmnbcndhoaaGreatDoorRl02
namespace Go.Proofs.YtlmdfmnbcndhoaaGreatDoor
open Go.RowKit
def zKu (L:List Fg) (o:Og):Prop:=zAg L.length o=true∧o.path.length≤10000
theorem zPG (Q:List (Nst×Bool)):4*Q.length≤(Q.flatMap stT).length:=by
 induction Q with
 | nil=>simp
 | cons x Q ih =>
  have:4≤(stT x).length:=by simp [stT,plT];omega
  rw [List.flatMap_cons,List.length_append,List.length_cons];omega
theorem zRH {n:Nop} (h:okN n):4*n.path.length≤(zIQ n).length:=by
 by_cases hp:n.path=[]
 ·simp [hp]
 ·have hk:n.kind=3:=by
   rcases h.2 with ⟨_,_,h,_⟩ | ⟨_,_,h⟩ | ⟨h,_⟩ | ⟨_,_,h⟩ | ⟨_,_,h⟩
   ·exact absurd h hp
   ·exact absurd h hp
   ·exact h
   ·exact absurd h hp
   ·exact absurd h hp
  have:=zPG n.path;unfold zIQ tlT;rw [if_neg (by omega),if_pos hk];simp only [List.length_cons,List.length_append];omega
theorem zRI {L:List Fg} {S:List UInt8} (h:zDe L S=0) (hS:S.length≤8000):zKu L (zEt L S):=by
 by_cases hx:∃n,okN n∧S=zCb n
 ·obtain ⟨n,h1,rfl⟩:=hx;obtain ⟨h2,h3⟩:=zEW L h1;rw [h2] at h;have hl:zAB L n=false:=by cases e:zAB L n<;>simp [e] at h ⊢
  rw [hl] at h3;rw [h3];refine ⟨(zXg h1 hl).1,?_⟩;show (n.path.map (pOf L)).length≤_;rw [List.length_map];have h4:=zRH h1;have h5:=zFG (zCb n);rw [zDR] at h5;omega
 ·rw [(zKn L fun n h1 h2=>hx ⟨n,h1,h2⟩).1] at h;omega
theorem zIj (L:List Fg):∀(ws:List (List UInt8)) (O:List Og),(∀p∈ws,p.length≤8000)→(∀o∈O,zKu L o)→∀o∈(zAQ L ws O).1,zKu L o
 | [],O,_,hO=>hO
 | [p],O,_,hO=>by
  unfold zAQ;split
  ·exact hO
  ·simp
 | p :: q :: r,O,hw,hO=>by
  unfold zAQ;split
  ·rename_i h;refine zIj L (q :: r) _ (fun x hx=>hw x (List.mem_cons_of_mem _ hx)) fun o ho=>?_
   rcases List.mem_append.1 ho with h1 | h1
   ·exact hO o h1
   ·rw [List.mem_singleton.1 h1];exact zRI h (hw p (List.mem_cons_self ..))
  ·simp
theorem zHr (L:List Fg):∀(ws:List (List UInt8)) (O:List Og),(zAQ L ws O).1.length≤O.length+ws.length
 | [],O=>by unfold zAQ;simp
 | [p],O=>by unfold zAQ;split<;>simp
 | p :: q :: r,O=>by
  unfold zAQ;split
  ·have:=zHr L (q :: r) (O++[zEt L p]);simp at this ⊢;omega
  ·simp
theorem zUr {L:List Fg} {re lo:Int} {S:List UInt8}:(∀o∈(rlR L re lo S).1,zKu L o)∧(rlR L re lo S).1.length≤8001:=by
 unfold rlR;by_cases h:zAy L re lo S=0
 ·rw [if_pos h];have hS:=(zBP h).1;refine ⟨zIj L _ [] (fun p hp=>Nat.le_trans (zBt 10 S p hp) hS) (by simp),?_⟩;have h1:=zHr L (zAR 10 S) [];have h2:(zAR 10 S).length≤S.length+1:=by
   rw [zEK];have:=List.count_le_length (a:=(10:UInt8)) (l:=S);omega
  simp at h1;omega
 ·rw [if_neg h];simp
theorem zKv:∀{ws:List (List UInt8)} {ns:List Nop},zCS ws=some ns→ns.length=ws.length∧∀n∈ns,∃p∈ws,zAG p=some n
 | [],ns,h=>by
  simp [zCS] at h;subst h;simp
 | p :: ws,ns,h=>by
  rw [zCS] at h
  cases h1:zAG p with
  | none=>rw [h1] at h;simp at h
  | some n =>
   cases h2:zCS ws with
   | none=>rw [h1,h2] at h;simp at h
   | some ms =>
    rw [h1,h2] at h;simp only [Option.some.injEq] at h;subst h;obtain ⟨h3,h4⟩:=zKv h2;refine ⟨by simp [h3],fun m hm=>?_⟩;rcases List.mem_cons.1 hm with rfl | hm
    ·exact ⟨p,List.mem_cons_self ..,h1⟩
    ·obtain ⟨q,hq,he⟩:=h4 m hm;exact ⟨q,List.mem_cons_of_mem _ hq,he⟩
theorem zUs {L:List Fg} {re lo:Int} {S:List UInt8}:(∀o∈rsO L re lo S,zKu L o)∧(rsO L re lo S).length≤8001:=by
 unfold rsO;by_cases h:zAy L re lo S=0
 ·rw [if_pos h];have hS:=(zBP h).1;unfold itO;by_cases h0:S=[]
  ·rw [if_pos h0];simp
  ·rw [if_neg h0]
   cases hs:zCS (zAR 32 S) with
   | none=>simp
   | some ns =>
    simp only;by_cases hl:ns.any (zAB L)=true
    ·rw [if_pos hl];simp
    ·rw [if_neg hl];obtain ⟨h1,h2⟩:=zKv hs;refine ⟨fun o ho=>?_,?_⟩
     ·obtain ⟨n,hn,rfl⟩:=List.mem_map.1 ho;obtain ⟨p,hp,hpn⟩:=h2 n hn;have h3:=zFE hpn;have h4:zAB L n=false:=by
       cases e:zAB L n with
       | false=>rfl
       | true=>exact absurd (List.any_eq_true.2 ⟨n,hn,e⟩) hl
      refine ⟨(zXg h3.1 h4).1,?_⟩;show (n.path.map (pOf L)).length≤_;rw [List.length_map];have h5:=zMH h3.1;rw [←h3.2.2] at h5;have h6:=zBt 32 S p hp;omega
     ·rw [List.length_map,h1];have:=zBu S;omega
 ·rw [if_neg h];simp
theorem zEZ {L:List Fg} {w:World} {base:Nat} {B:Option Addr} {m d:Nat} {Es:List Oe} (h:OpsOwn w base B m d Es) (hm:m≤1000000) {O:List Og} (hE:List.map (fun x:Oe=>x.o) Es=O) (hg:∀o∈O,zKu L o) (hl:O.length≤8001) :
  Oprs w B m Es∧m≤10000∧zTJ Es∧(∀i,i < Es.length→zAg L.length (oa Es i).o=true)∧O.all (zAg L.length)=true:=by
 have hO:=h.oprs hm;have hlen:Es.length=m:=hO.len;have h1:Es.length=O.length:=by rw [←hE,List.length_map]
 have hmem:∀e∈Es,zKu L e.o:=fun e he=>hg _ (by rw [←hE];exact List.mem_map_of_mem he)
 refine ⟨hO,by omega,fun e he=>?_,fun i hi=>?_,?_⟩
 ·have h2:=(h.ok e he).2.1.len;have h3:=(hmem e he).2;omega
 ·exact (hmem _ (List.mem_of_getElem? (zBn hi))).1
 ·rw [List.all_eq_true];intro o ho;exact (hg o ho).1
set_option maxHeartbeats 1600000 in
theorem zNK (F:Fm) (S:List UInt8) (w:World) (hA:Fgs w F.A F.n F.L) (hc:F.n≤F.c) (ht:Tabs w) :
  Calls Tryz.prog 238 #[.agg #[],frV F.A F.n F.c F.re F.lo,.string (bA S)] w (zFM w (rlR F.L F.re F.lo S).1 (rlR F.L F.re F.lo S).2.2):=by
 have ah:Below w.heap.size w ((w.alloc (.cells #[] 183)).alloc (.cells #[.slice F.A F.n F.c,.int .i64 F.re,.int .i64 F.lo] 24)):=((Below.refl _ _).alloc (Nat.le_refl _) _).alloc (by simp) _;have HC:=qH (zDG F S _ (hA.below ah) hc (ht.below ah));have HB:=qH ah;clear hA ht ah;go_enter Tryz.func238,Tryz.ntmps238;go_wp2_with fail
 refine HC.out.mono ?_;rintro e Y ⟨B,m,d,Es,rfl,h1,h2,h3,h4⟩;have HF:=qH (show zFM w (rlR F.L F.re F.lo S).1 (rlR F.L F.re F.lo S).2.2 (.returned (.tuple #[.slice B m d,.int .i64 (rlR F.L F.re F.lo S).2.2])) Y from ⟨B,m,d,Es,rfl,h1,h2,h3.mono HB.out.size,zAa HB.out h4 HB.out.size⟩);clear h1 h2 h3 h4;go_wp2_with fail
 go_ret2;exact HF.out
set_option maxHeartbeats 1600000 in
theorem zNL (F:Fm) (S:List UInt8) (w:World) (hA:Fgs w F.A F.n F.L) (hc:F.n≤F.c) (ht:Tabs w) :
  Calls Tryz.prog 240 #[.agg #[],frV F.A F.n F.c F.re F.lo,.string (bA S)] w (zFM w (rsO F.L F.re F.lo S) (rsE F.L F.re F.lo S)):=by
 have ah:Below w.heap.size w ((w.alloc (.cells #[] 184)).alloc (.cells #[.slice F.A F.n F.c,.int .i64 F.re,.int .i64 F.lo] 24)):=((Below.refl _ _).alloc (Nat.le_refl _) _).alloc (by simp) _;have HC:=qH (zHq F S _ (hA.below ah) hc (ht.below ah));have HB:=qH ah;clear hA ht ah;go_enter Tryz.func240,Tryz.ntmps240;go_wp2_with fail
 refine HC.out.mono ?_;rintro e Y ⟨B,m,d,Es,rfl,h1,h2,h3,h4⟩;have HF:=qH (show zFM w (rsO F.L F.re F.lo S) (rsE F.L F.re F.lo S) (.returned (.tuple #[.slice B m d,.int .i64 (rsE F.L F.re F.lo S)])) Y from ⟨B,m,d,Es,rfl,h1,h2,h3.mono HB.out.size,zAa HB.out h4 HB.out.size⟩);clear h1 h2 h3 h4;go_wp2_with fail
 go_ret2;exact HF.out
set_option maxHeartbeats 1600000 in
theorem zHs (F:Fm) (B:Option Addr) (m d:Nat) (Es:List Oe) (w:World) (hA:Fgs w F.A F.n F.L) (hc:F.n≤F.c) (ht:Tabs w) (hv:frB F.L F.re F.lo=true) (hO:Oprs w B m Es) (hm:m≤10000) (hf:zTJ Es) {O:List Og} (hE:List.map (fun x:Oe=>x.o) Es=O) (hr:O.all (zAg F.L.length)=true) :
  Calls Tryz.prog 239 #[.agg #[],frV F.A F.n F.c F.re F.lo,.slice B m d] w fun e w'=>e=.returned (.tuple #[.string (bA (zBD F.L O)),.int .i64 0])∧Below w.heap.size w w':=by
 have ah:Below w.heap.size w ((w.alloc (.cells #[] 183)).alloc (.cells #[.slice F.A F.n F.c,.int .i64 F.re,.int .i64 F.lo] 24)):=((Below.refl _ _).alloc (Nat.le_refl _) _).alloc (by simp) _;have h1:=zGQ F.A F.n F.c F.L F.re F.lo B m d Es _ (hA.below ah) hc (hO.below ah) hm hf (ht.below ah);have h2:zAF F.L F.re F.lo (Es.map (·.o))=0:=by unfold zAF;rw [hE,hv,hr];rfl
 rw [h2,if_pos rfl,hE] at h1;have HC:=qH h1;have HB:=qH ah;clear hA ht ah h1 h2 hO;go_enter Tryz.func239,Tryz.ntmps239;go_wp2_with fail
 refine HC.out.mono ?_;rintro e Y ⟨rfl,h4⟩;have HF:=qH (zAa HB.out h4 HB.out.size);clear h4;go_wp2_with fail
 go_ret2;exact ⟨rfl,HF.out⟩
set_option maxHeartbeats 1600000 in
theorem zHt (F:Fm) (B:Option Addr) (m d:Nat) (Es:List Oe) (w:World) (hA:Fgs w F.A F.n F.L) (hc:F.n≤F.c) (hv:frB F.L F.re F.lo=true) (hO:Oprs w B m Es) (hm:m≤10000) (hf:zTJ Es) {O:List Og} (hE:List.map (fun x:Oe=>x.o) Es=O) (hr:O.all (zAg F.L.length)=true) (hcn:O.all (zDn F.L)=true) :
  Calls Tryz.prog 241 #[.agg #[],frV F.A F.n F.c F.re F.lo,.slice B m d] w fun e w'=>e=.returned (.tuple #[.string (bA (zGR F.L O)),.int .i64 0])∧Below w.heap.size w w':=by
 have ah:Below w.heap.size w ((w.alloc (.cells #[] 184)).alloc (.cells #[.slice F.A F.n F.c,.int .i64 F.re,.int .i64 F.lo] 24)):=((Below.refl _ _).alloc (Nat.le_refl _) _).alloc (by simp) _;have h1:=zLm F.A F.n F.c F.L F.re F.lo B m d Es _ (hA.below ah) hc (hO.below ah) hm hf;have h2:zAF F.L F.re F.lo O=0:=by unfold zAF;rw [hv,hr];rfl
 have h3:zQM F.L F.re F.lo O=0:=by unfold zQM;rw [h2,if_pos rfl,hcn,if_pos rfl]
 have h5:zTL F.L F.re F.lo O=zGR F.L O:=by unfold zTL;rw [h3,if_pos rfl]
 rw [hE,h3,h5] at h1;have HC:=qH h1;have HB:=qH ah;clear hA ah h1 h2 h3 h5 hO;go_enter Tryz.func241,Tryz.ntmps241;go_wp2_with fail
 refine HC.out.mono ?_;rintro e Y ⟨rfl,h4⟩;have HF:=qH (zAa HB.out h4 HB.out.size);clear h4;go_wp2_with fail
 go_ret2;exact ⟨rfl,HF.out⟩
noncomputable def ntO (L:List Fg) (re lo:Int) (k:Int) (S:List UInt8):List Og:=if k=1 then (rlR L re lo S).1 else rsO L re lo S
noncomputable def ntE (L:List Fg) (re lo:Int) (k:Int) (S:List UInt8):Int:=if k=1 then (rlR L re lo S).2.2 else rsE L re lo S
def ntW (L:List Fg) (k:Int) (O:List Og):List UInt8:=if k=1 then zBD L O else zGR L O
noncomputable def trE (L:List Fg) (re lo:Int) (S:List UInt8) (from_ to_:Int):Int :=
 if frB L re lo=true∧(from_=1∨from_=2)∧(to_=1∨to_=2) then
  if ntE L re lo from_ S=0 then (if to_=2∧(ntO L re lo from_ S).all (zDn L)=false then 8 else 0) else ntE L re lo from_ S
 else 2
noncomputable def trS (L:List Fg) (re lo:Int) (S:List UInt8) (from_ to_:Int):List UInt8:=if trE L re lo S from_ to_=0 then ntW L to_ (ntO L re lo from_ S) else []
theorem zUt {L:List Fg} {re lo k:Int} {S:List UInt8}:(∀o∈ntO L re lo k S,zKu L o)∧(ntO L re lo k S).length≤8001:=by
 unfold ntO;split
 ·exact zUr
 ·exact zUs
theorem zUu (F:Fm) (S:List UInt8) (k:Int) (hk:k=1∨k=2) (w:World) (hA:Fgs w F.A F.n F.L) (hc:F.n≤F.c) (ht:Tabs w) :
  Calls Tryz.prog (if k=1 then 238 else 240) #[.agg #[],frV F.A F.n F.c F.re F.lo,.string (bA S)] w (zFM w (ntO F.L F.re F.lo k S) (ntE F.L F.re F.lo k S)):=by
 rcases hk with rfl | rfl
 ·exact zNK F S w hA hc ht
 ·exact zNL F S w hA hc ht
theorem zUv (w : World) : (method 365 183 (.agg #[]) "catscradle/notes.read").run Tryz.prog w = .ok (238, .agg #[]) w := by kernel_rfl
theorem zUw (w : World) : (method 365 184 (.agg #[]) "catscradle/notes.read").run Tryz.prog w = .ok (240, .agg #[]) w := by kernel_rfl
theorem zUx (w : World) : (method 365 183 (.agg #[]) "catscradle/notes.write").run Tryz.prog w = .ok (239, .agg #[]) w := by kernel_rfl
theorem zUy (w : World) : (method 365 184 (.agg #[]) "catscradle/notes.write").run Tryz.prog w = .ok (241, .agg #[]) w := by kernel_rfl
set_option maxHeartbeats 12800000 in
set_option maxRecDepth 100000 in
theorem zHu (F:Fm) (S:List UInt8) (p q:Int) (w:World) (hA:Fgs w F.A F.n F.L) (hc:F.n≤F.c) (ht:Tabs w) :
  Calls Tryz.prog 40 #[frV F.A F.n F.c F.re F.lo,.string (bA S),.int .i64 p,.int .i64 q] w fun e w'=>e=.returned (.tuple #[.string (bA (trS F.L F.re F.lo S p q)),.int .i64 (trE F.L F.re F.lo S p q)])∧Below w.heap.size w w':=by
 have ah:Below w.heap.size w (w.alloc (.cells #[.slice F.A F.n F.c,.int .i64 F.re,.int .i64 F.lo] 24)):=(Below.refl _ _).alloc (Nat.le_refl _) _;have hk0:Blk (w.alloc (.cells #[.slice F.A F.n F.c,.int .i64 F.re,.int .i64 F.lo] 24)) w.heap.size 24 #[.slice F.A F.n F.c,.int .i64 F.re,.int .i64 F.lo]:=Blk.new _ _ _;obtain ⟨b,hb⟩:∃b,frB F.L F.re F.lo=b:=⟨_,rfl⟩
 obtain ⟨E,hE⟩:∃x,trE F.L F.re F.lo S p q=x:=⟨_,rfl⟩
 obtain ⟨T,hT⟩:∃x,trS F.L F.re F.lo S p q=x:=⟨_,rfl⟩
 rw [hE,hT];have HE:=qH hE;have ep:=qH hT;have HB:=qH hb;have HA:=qH hA;have HT:=qH ht;have HV:=qH (zEB hb F.A F.n F.c _ (hA.below ah) hc);have GW:=qH (fun k wx=>zKt k wx)
 have vB:=qH (fun (h:¬(frB F.L F.re F.lo=true∧(p=1∨p=2)∧(q=1∨q=2)))=>(show E=2∧T=[] by
  have h1:E=2:=by rw [←hE];unfold trE;rw [if_neg h]
  refine ⟨h1,?_⟩
  rw [←hT];unfold trS;rw [hE,h1];rfl))
 clear hE hT hb hA ht;go_enter Tryz.func40,Tryz.ntmps40;go_wp2_with fail
 generalize w.alloc (.cells #[.slice F.A F.n F.c,.int .i64 F.re,.int .i64 F.lo] 24)=Y at ah hk0 HV ⊢;refine HV.out.mono ?_;rintro e Y2 ⟨rfl,ai⟩;have bt:=hk0.below ai hk0.lt;have al:=zAa ah ai ah.size;clear hk0 ah ai HV
 cases b with
 | false =>
  have HF:=qH (vB.out (fun h=>by rw [HB.out] at h;cases h.1));clear vB bt;go_wp2_with fail
  go_ret2;exact ⟨by rw [HF.out.1,HF.out.2];rfl,al⟩
 | true =>
  go_wp2_with fail
  refine (GW.out p _).mono ?_;rintro e Y3 ⟨rfl,rfl⟩;go_wp2_with fail
  refine (GW.out q _).mono ?_;rintro e Y4 ⟨rfl,rfl⟩;by_cases hp:p=1∨p=2
  ·by_cases hq:q=1∨q=2
   ·have v0:Y4.cell? ⟨w.heap.size,0,none⟩=some (.slice F.A F.n F.c):=(bt.cell 0).trans rfl;obtain ⟨-,v1,v2⟩:=cQ3 bt;have Cx:=zUt (L:=F.L) (re:=F.re) (lo:=F.lo) (k:=p) (S:=S);have Cn:=zUu F S p hp Y4 (HA.out.below al) hc (HT.out.below al);have Cj:E=if ntE F.L F.re F.lo p S=0 then (if q=2∧(ntO F.L F.re F.lo p S).all (zDn F.L)=false then 8 else 0) else ntE F.L F.re F.lo p S:=by rw [←HE.out];unfold trE;rw [if_pos ⟨HB.out,hp,hq⟩]
    have Ci:T=if E=0 then ntW F.L q (ntO F.L F.re F.lo p S) else []:=by rw [←ep.out];unfold trS;rw [HE.out]
    obtain ⟨O,Cr⟩:∃x,ntO F.L F.re F.lo p S=x:=⟨_,rfl⟩
    obtain ⟨er,her⟩:∃x,ntE F.L F.re F.lo p S=x:=⟨_,rfl⟩
    rw [Cr,her] at Cn Cj;rw [Cr] at Ci Cx;have tj:=qH Cx;have nN:=qH Cn;have pI:=qH Cj;have pG:=qH Ci;have mwr:=zUv;have msr:=zUw;have mww:=zUx;have msw:=zUy;clear vB Cx Cn Cj Ci Cr her;rcases hp with rfl | rfl
    ·rcases hq with rfl | rfl
     ·skip;rw [if_pos rfl] at nN;rw [show zJG 1=.iface 183 (.agg #[]) from rfl];go_wp2_with fail
      refine nN.out.mono ?_;rintro e Y5 ⟨B,m,d,Es,rfl,fc,hm,hO,aw⟩;have pm:=qH fc;have aH:=zAa al aw al.size;have fO:=bt.below aw bt.lt;obtain ⟨u0,u1,u2⟩:=cQ3 fO;by_cases h0:er=0
      ·subst h0;obtain ⟨it,db,hfi,hri,hal⟩:=zEZ hO hm fc tj.out.1 tj.out.2;have hnl:F.n=F.L.length:=HA.out.len.symm;have jB:=qH (zEY F.A F.n F.c F.L F.re F.lo 1 (by omega) B m d Es Y5 (HA.out.below aH) it (by rw [hnl];exact hri));obtain ⟨av,hav⟩:∃x,zTc F.L 1 Es=x:=⟨_,rfl⟩
       rw [hav] at jB;have kU:=qH (pI.out.trans (if_pos rfl));have HK:=qH (And.intro it (And.intro db (And.intro hfi hal)));have qD:=qH hav;clear hO hm fc it db hfi hri hal hav hnl nN v0 v1 v2;go_wp2_with fail
       refine jB.out.mono ?_;rintro e Y6 ⟨rfl,cI⟩;have cm:=zAa aH cI aH.size;have mw:=fO.below cI fO.lt;obtain ⟨t0,t1,t2⟩:=cQ3 mw;clear u0 u1 u2
       cases av with
       | true =>
        have e9:Hid (E=0):=qH (by rw [kU.out,if_neg (by omega)]);have vh:=qH (zHs F B m d Es Y6 (HA.out.below cm) hc (HT.out.below cm) HB.out (HK.out.1.below cI) HK.out.2.1 HK.out.2.2.1 pm.out HK.out.2.2.2);have iA:=qH (show T=zBD F.L O by rw [pG.out,e9.out];rfl);go_wp2_with fail
        refine vh.out.mono ?_;rintro e Y7 ⟨rfl,aS⟩;have bX:=zAa cm aS cm.size;clear t0 t1 t2;go_wp2_with fail
        go_ret2;exact ⟨by rw [e9.out,iA.out];rfl,bX⟩
       | false =>
        exact absurd qD.out (by rw [show zTc F.L 1 Es=true from rfl];simp)
      ·have e9:Hid (E=er):=qH (by rw [pI.out,if_neg h0]);have iA:Hid (T=[]):=qH (by rw [pG.out,e9.out,if_neg h0]);have k0:(er != 0)=true:=by simpa using h0
       clear h0 hO hm fc u0 u1 u2 v0 v1 v2;go_wp2_with fail
       go_ret2;exact ⟨by rw [e9.out,iA.out];rfl,aH⟩
     ·skip;rw [if_pos rfl] at nN;rw [show zJG 1=.iface 183 (.agg #[]) from rfl,show zJG 2=.iface 184 (.agg #[]) from rfl];go_wp2_with fail
      refine nN.out.mono ?_;rintro e Y5 ⟨B,m,d,Es,rfl,fc,hm,hO,aw⟩;have pm:=qH fc;have aH:=zAa al aw al.size;have fO:=bt.below aw bt.lt;obtain ⟨u0,u1,u2⟩:=cQ3 fO;by_cases h0:er=0
      ·subst h0;obtain ⟨it,db,hfi,hri,hal⟩:=zEZ hO hm fc tj.out.1 tj.out.2;have hnl:F.n=F.L.length:=HA.out.len.symm;have jB:=qH (zEY F.A F.n F.c F.L F.re F.lo 2 (by omega) B m d Es Y5 (HA.out.below aH) it (by rw [hnl];exact hri));obtain ⟨av,hav⟩:∃x,zTc F.L 2 Es=x:=⟨_,rfl⟩
       rw [hav] at jB;have kU:=qH (pI.out.trans (if_pos rfl));have HK:=qH (And.intro it (And.intro db (And.intro hfi hal)));have qD:=qH hav;clear hO hm fc it db hfi hri hal hav hnl nN v0 v1 v2;go_wp2_with fail
       refine jB.out.mono ?_;rintro e Y6 ⟨rfl,cI⟩;have cm:=zAa aH cI aH.size;have mw:=fO.below cI fO.lt;obtain ⟨t0,t1,t2⟩:=cQ3 mw;clear u0 u1 u2
       cases av with
       | true =>
        have hcn:O.all (zDn F.L)=true:=by rw [←pm.out,List.all_map];exact qD.out
        have e9:Hid (E=0):=qH (by rw [kU.out,if_neg (by rw [hcn];simp)]);have vh:=qH (zHt F B m d Es Y6 (HA.out.below cm) hc HB.out (HK.out.1.below cI) HK.out.2.1 HK.out.2.2.1 pm.out HK.out.2.2.2 hcn);have iA:=qH (show T=zGR F.L O by rw [pG.out,e9.out];rfl);clear hcn;go_wp2_with fail
        refine vh.out.mono ?_;rintro e Y7 ⟨rfl,aS⟩;have bX:=zAa cm aS cm.size;clear t0 t1 t2;go_wp2_with fail
        go_ret2;exact ⟨by rw [e9.out,iA.out];rfl,bX⟩
       | false =>
        have hcn:O.all (zDn F.L)=false:=by rw [←pm.out,List.all_map];exact qD.out
        have e9:Hid (E=8):=qH (by rw [kU.out,if_pos (by first | exact ⟨rfl,hcn⟩ | exact ⟨trivial,hcn⟩)]);have iA:=qH (show T=[] by rw [pG.out,e9.out];rfl);clear hcn;go_wp2_with fail
        go_ret2;exact ⟨by rw [e9.out,iA.out];rfl,cm⟩
      ·have e9:Hid (E=er):=qH (by rw [pI.out,if_neg h0]);have iA:Hid (T=[]):=qH (by rw [pG.out,e9.out,if_neg h0]);have k0:(er != 0)=true:=by simpa using h0
       clear h0 hO hm fc u0 u1 u2 v0 v1 v2;go_wp2_with fail
       go_ret2;exact ⟨by rw [e9.out,iA.out];rfl,aH⟩
    ·rcases hq with rfl | rfl
     ·skip;rw [if_neg (by omega)] at nN;rw [show zJG 2=.iface 184 (.agg #[]) from rfl,show zJG 1=.iface 183 (.agg #[]) from rfl];go_wp2_with fail
      refine nN.out.mono ?_;rintro e Y5 ⟨B,m,d,Es,rfl,fc,hm,hO,aw⟩;have pm:=qH fc;have aH:=zAa al aw al.size;have fO:=bt.below aw bt.lt;obtain ⟨u0,u1,u2⟩:=cQ3 fO;by_cases h0:er=0
      ·subst h0;obtain ⟨it,db,hfi,hri,hal⟩:=zEZ hO hm fc tj.out.1 tj.out.2;have hnl:F.n=F.L.length:=HA.out.len.symm;have jB:=qH (zEY F.A F.n F.c F.L F.re F.lo 1 (by omega) B m d Es Y5 (HA.out.below aH) it (by rw [hnl];exact hri));obtain ⟨av,hav⟩:∃x,zTc F.L 1 Es=x:=⟨_,rfl⟩
       rw [hav] at jB;have kU:=qH (pI.out.trans (if_pos rfl));have HK:=qH (And.intro it (And.intro db (And.intro hfi hal)));have qD:=qH hav;clear hO hm fc it db hfi hri hal hav hnl nN v0 v1 v2;go_wp2_with fail
       refine jB.out.mono ?_;rintro e Y6 ⟨rfl,cI⟩;have cm:=zAa aH cI aH.size;have mw:=fO.below cI fO.lt;obtain ⟨t0,t1,t2⟩:=cQ3 mw;clear u0 u1 u2
       cases av with
       | true =>
        have e9:Hid (E=0):=qH (by rw [kU.out,if_neg (by omega)]);have vh:=qH (zHs F B m d Es Y6 (HA.out.below cm) hc (HT.out.below cm) HB.out (HK.out.1.below cI) HK.out.2.1 HK.out.2.2.1 pm.out HK.out.2.2.2);have iA:=qH (show T=zBD F.L O by rw [pG.out,e9.out];rfl);go_wp2_with fail
        refine vh.out.mono ?_;rintro e Y7 ⟨rfl,aS⟩;have bX:=zAa cm aS cm.size;clear t0 t1 t2;go_wp2_with fail
        go_ret2;exact ⟨by rw [e9.out,iA.out];rfl,bX⟩
       | false =>
        exact absurd qD.out (by rw [show zTc F.L 1 Es=true from rfl];simp)
      ·have e9:Hid (E=er):=qH (by rw [pI.out,if_neg h0]);have iA:Hid (T=[]):=qH (by rw [pG.out,e9.out,if_neg h0]);have k0:(er != 0)=true:=by simpa using h0
       clear h0 hO hm fc u0 u1 u2 v0 v1 v2;go_wp2_with fail
       go_ret2;exact ⟨by rw [e9.out,iA.out];rfl,aH⟩
     ·skip;rw [if_neg (by omega)] at nN;rw [show zJG 2=.iface 184 (.agg #[]) from rfl];go_wp2_with fail
      refine nN.out.mono ?_;rintro e Y5 ⟨B,m,d,Es,rfl,fc,hm,hO,aw⟩;have pm:=qH fc;have aH:=zAa al aw al.size;have fO:=bt.below aw bt.lt;obtain ⟨u0,u1,u2⟩:=cQ3 fO;by_cases h0:er=0
      ·subst h0;obtain ⟨it,db,hfi,hri,hal⟩:=zEZ hO hm fc tj.out.1 tj.out.2;have hnl:F.n=F.L.length:=HA.out.len.symm;have jB:=qH (zEY F.A F.n F.c F.L F.re F.lo 2 (by omega) B m d Es Y5 (HA.out.below aH) it (by rw [hnl];exact hri));obtain ⟨av,hav⟩:∃x,zTc F.L 2 Es=x:=⟨_,rfl⟩
       rw [hav] at jB;have kU:=qH (pI.out.trans (if_pos rfl));have HK:=qH (And.intro it (And.intro db (And.intro hfi hal)));have qD:=qH hav;clear hO hm fc it db hfi hri hal hav hnl nN v0 v1 v2;go_wp2_with fail
       refine jB.out.mono ?_;rintro e Y6 ⟨rfl,cI⟩;have cm:=zAa aH cI aH.size;have mw:=fO.below cI fO.lt;obtain ⟨t0,t1,t2⟩:=cQ3 mw;clear u0 u1 u2
       cases av with
       | true =>
        have hcn:O.all (zDn F.L)=true:=by rw [←pm.out,List.all_map];exact qD.out
        have e9:Hid (E=0):=qH (by rw [kU.out,if_neg (by rw [hcn];simp)]);have vh:=qH (zHt F B m d Es Y6 (HA.out.below cm) hc HB.out (HK.out.1.below cI) HK.out.2.1 HK.out.2.2.1 pm.out HK.out.2.2.2 hcn);have iA:=qH (show T=zGR F.L O by rw [pG.out,e9.out];rfl);clear hcn;go_wp2_with fail
        refine vh.out.mono ?_;rintro e Y7 ⟨rfl,aS⟩;have bX:=zAa cm aS cm.size;clear t0 t1 t2;go_wp2_with fail
        go_ret2;exact ⟨by rw [e9.out,iA.out];rfl,bX⟩
       | false =>
        have hcn:O.all (zDn F.L)=false:=by rw [←pm.out,List.all_map];exact qD.out
        have e9:Hid (E=8):=qH (by rw [kU.out,if_pos (by first | exact ⟨rfl,hcn⟩ | exact ⟨trivial,hcn⟩)]);have iA:=qH (show T=[] by rw [pG.out,e9.out];rfl);clear hcn;go_wp2_with fail
        go_ret2;exact ⟨by rw [e9.out,iA.out];rfl,cm⟩
      ·have e9:Hid (E=er):=qH (by rw [pI.out,if_neg h0]);have iA:Hid (T=[]):=qH (by rw [pG.out,e9.out,if_neg h0]);have k0:(er != 0)=true:=by simpa using h0
       clear h0 hO hm fc u0 u1 u2 v0 v1 v2;go_wp2_with fail
       go_ret2;exact ⟨by rw [e9.out,iA.out];rfl,aH⟩
   ·have HF:=qH (vB.out (fun h=>hq h.2.2));have hqn:zJG q=.nilIface:=by unfold zJG;rw [if_neg (fun e=>hq (.inl e)),if_neg (fun e=>hq (.inr e))]
    rw [hqn];clear hq hqn vB bt;rcases hp with rfl | rfl
    ·rw [show zJG 1=.iface 183 (.agg #[]) from rfl];go_wp2_with fail
     go_ret2;exact ⟨by rw [HF.out.1,HF.out.2];rfl,al⟩
    ·rw [show zJG 2=.iface 184 (.agg #[]) from rfl];go_wp2_with fail
     go_ret2;exact ⟨by rw [HF.out.1,HF.out.2];rfl,al⟩
  ·have HF:=qH (vB.out (fun h=>hp h.2.1));have hpn:zJG p=.nilIface:=by unfold zJG;rw [if_neg (fun e=>hp (.inl e)),if_neg (fun e=>hp (.inr e))]
   rw [hpn];clear hp hpn vB bt;go_wp2_with fail
   go_ret2;exact ⟨by rw [HF.out.1,HF.out.2];rfl,al⟩
def Dia (w:World) (p:Nat) (K:Int) (A:Option Addr) (n c:Nat) (v2 v3 v4 v5 v6:Value):Prop:=Blk w p 148 #[.int .i64 K,.slice A n c,v2,v3,v4,v5,v6]
section
variable {w w':World} {p:Nat} {K:Int} {A:Option Addr} {n c:Nat} {v2 v3 v4 v5 v6:Value}
theorem Dia.c0 (h:Dia w p K A n c v2 v3 v4 v5 v6):w.cell? ⟨p,0,none⟩=some (.int .i64 K):=by rw [Blk.cell h];rfl
theorem Dia.c1 (h:Dia w p K A n c v2 v3 v4 v5 v6):w.cell? ⟨p,1,none⟩=some (.slice A n c):=by rw [Blk.cell h];rfl
theorem Dia.c2 (h:Dia w p K A n c v2 v3 v4 v5 v6):w.cell? ⟨p,2,none⟩=some v2:=by rw [Blk.cell h];rfl
theorem Dia.c3 (h:Dia w p K A n c v2 v3 v4 v5 v6):w.cell? ⟨p,3,none⟩=some v3:=by rw [Blk.cell h];rfl
theorem Dia.c4 (h:Dia w p K A n c v2 v3 v4 v5 v6):w.cell? ⟨p,4,none⟩=some v4:=by rw [Blk.cell h];rfl
theorem Dia.c5 (h:Dia w p K A n c v2 v3 v4 v5 v6):w.cell? ⟨p,5,none⟩=some v5:=by rw [Blk.cell h];rfl
theorem Dia.c6 (h:Dia w p K A n c v2 v3 v4 v5 v6):w.cell? ⟨p,6,none⟩=some v6:=by rw [Blk.cell h];rfl
theorem Dia.lt (h:Dia w p K A n c v2 v3 v4 v5 v6):p < w.heap.size:=Blk.lt h
theorem Dia.below {B:Nat} (h:Dia w p K A n c v2 v3 v4 v5 v6) (hb:Below B w w') (hB:p < B):Dia w' p K A n c v2 v3 v4 v5 v6:=Blk.below h hb hB
theorem Dia.next (h:Dia w p K A n c v2 v3 v4 v5 v6) (hb:Below w.heap.size w w'):Dia w' p K A n c v2 v3 v4 v5 v6:=Blk.below h hb h.lt
theorem Dia.frozen (h:Dia w p K A n c v2 v3 v4 v5 v6) (i:Nat):w.frozen? ⟨p,i,none⟩=false:=Blk.frozen h i
end
set_option maxRecDepth 100000 in
set_option maxHeartbeats 1600000 in
theorem zGe (l:Lt) (b p:Nat) (K:Int) (w:World) (hb:w.cell? ⟨b,0,none⟩=some (.pointer (some ⟨p,0,none⟩))) (hp:w.cell? ⟨p,0,none⟩=some (.int .i64 K)) :
  Calls Tryz.prog 198 #[ltV l,.pointer (some ⟨b,0,none⟩)] w fun e w'=>e=.returned (.bool (!lpB K l))∧Below w.heap.size w w':=by
 have hbb:=(Below.refl w.heap.size w).alloc (Nat.le_refl _) (.cells #[.int .i64 l.kind,.int .i64 l.gate,.int .i64 l.rank,.int .i64 l.id,.int .i64 l.sign,.bool l.over] 76);have hblt:=World.block_lt_of_cell? w _ hb;have hplt:=World.block_lt_of_cell? w _ hp;have uB:=(hbb.cell (p:=⟨b,0,none⟩) hblt).trans hb;have pw:=(hbb.cell (p:=⟨p,0,none⟩) hplt).trans hp;unfold ltV
 cases k1:(l.kind==1) with
 | true =>
  cases q1:decide (l.gate < 0) with
  | true =>
   have zL:l.gate < 0:=by simpa using q1
   have hf:=qH (show (!lpB K l)=true by unfold lpB;rw [if_pos (show l.kind=1 by simpa using k1)];simp at q1;simp;omega);go_enter Tryz.func198,Tryz.ntmps198;go_wp2_with fail
   go_quiet (fail)
   go_wp2_with fail
   go_ret;exact ⟨zAk hf.out.symm,zAf ((Below.refl _ _).alloc (Nat.le_refl _) _) _⟩
  | false =>
   cases q2:decide (K < l.gate) with
   | true =>
    have zJ:K < l.gate:=by simpa using q2
    have hf:=qH (show (!lpB K l)=true by unfold lpB;rw [if_pos (show l.kind=1 by simpa using k1)];simp at q2;simp;omega);go_enter Tryz.func198,Tryz.ntmps198;go_wp2_with fail
    go_quiet (fail)
    go_wp2_with fail
    go_ret;exact ⟨zAk hf.out.symm,zAf ((Below.refl _ _).alloc (Nat.le_refl _) _) _⟩
   | false =>
    cases q3:(l.id != 0) with
    | true =>
     have hf:=qH (show (!lpB K l)=true by unfold lpB;rw [if_pos (show l.kind=1 by simpa using k1)];simp at q3;simp;omega);go_enter Tryz.func198,Tryz.ntmps198;go_wp2_with fail
     go_quiet (fail)
     go_wp2_with fail
     go_ret;exact ⟨zAk hf.out.symm,zAf ((Below.refl _ _).alloc (Nat.le_refl _) _) _⟩
    | false =>
     cases q4:(l.sign != 0) with
     | true =>
      have hf:=qH (show (!lpB K l)=true by unfold lpB;rw [if_pos (show l.kind=1 by simpa using k1)];simp at q4;simp;omega);go_enter Tryz.func198,Tryz.ntmps198;go_wp2_with fail
      go_quiet (fail)
      go_wp2_with fail
      go_ret;exact ⟨zAk hf.out.symm,zAf ((Below.refl _ _).alloc (Nat.le_refl _) _) _⟩
     | false =>
      cases q5:l.over with
      | true =>
       have hf:=qH (show (!lpB K l)=true by unfold lpB;rw [if_pos (show l.kind=1 by simpa using k1)];simp [q5]);go_enter Tryz.func198,Tryz.ntmps198;go_wp2_with fail
       go_quiet (fail)
       go_wp2_with fail
       go_ret;exact ⟨zAk hf.out.symm,zAf ((Below.refl _ _).alloc (Nat.le_refl _) _) _⟩
      | false =>
       have hf:=qH (show (!lpB K l)=false by unfold lpB;rw [if_pos (show l.kind=1 by simpa using k1)];simp at q1 q2 q3 q4;simp;exact ⟨by omega,by omega,by omega,by omega,q5⟩);go_enter Tryz.func198,Tryz.ntmps198;go_wp2_with fail
       go_quiet (fail)
       go_wp2_with fail
       go_ret;exact ⟨zAk hf.out.symm,zAf ((Below.refl _ _).alloc (Nat.le_refl _) _) _⟩
 | false =>
  cases k2:(l.kind==2) with
  | true =>
   cases q1:(l.gate != 0) with
   | true =>
    have hf:=qH (show (!lpB K l)=true by unfold lpB;rw [if_neg (show ¬l.kind=1 by simpa using k1),if_pos (show l.kind=2 by simpa using k2)];simp at q1;simp;omega);go_enter Tryz.func198,Tryz.ntmps198;go_wp2_with fail
    go_ret;exact ⟨zAk hf.out.symm,(Below.refl _ _).alloc (Nat.le_refl _) _⟩
   | false =>
    cases q2:(l.rank != 0) with
    | true =>
     have hf:=qH (show (!lpB K l)=true by unfold lpB;rw [if_neg (show ¬l.kind=1 by simpa using k1),if_pos (show l.kind=2 by simpa using k2)];simp at q2;simp;omega);go_enter Tryz.func198,Tryz.ntmps198;go_wp2_with fail
     go_ret;exact ⟨zAk hf.out.symm,(Below.refl _ _).alloc (Nat.le_refl _) _⟩
    | false =>
     cases q3:(l.sign != 1) with
     | false =>
      have wL:l.sign=1∨l.sign = -1:=by simp at q3;exact .inl q3
      have Q3:=qH wL;clear wL
      have hf:=qH (show (!lpB K l)=false by unfold lpB;rw [if_neg (show ¬l.kind=1 by simpa using k1),if_pos (show l.kind=2 by simpa using k2)];have Q:=Q3.out;simp at q1 q2;simp;omega);go_enter Tryz.func198,Tryz.ntmps198;go_wp2_with fail
      go_ret;exact ⟨zAk hf.out.symm,(Below.refl _ _).alloc (Nat.le_refl _) _⟩
     | true =>
      cases q4:(l.sign != -1) with
      | false =>
       have wL:l.sign=1∨l.sign = -1:=by simp at q4;exact .inr q4
       have Q3:=qH wL;clear wL
       have hf:=qH (show (!lpB K l)=false by unfold lpB;rw [if_neg (show ¬l.kind=1 by simpa using k1),if_pos (show l.kind=2 by simpa using k2)];have Q:=Q3.out;simp at q1 q2;simp;omega);go_enter Tryz.func198,Tryz.ntmps198;go_wp2_with fail
       go_ret;exact ⟨zAk hf.out.symm,(Below.refl _ _).alloc (Nat.le_refl _) _⟩
      | true =>
       have hf:=qH (show (!lpB K l)=true by unfold lpB;rw [if_neg (show ¬l.kind=1 by simpa using k1),if_pos (show l.kind=2 by simpa using k2)];simp at q3 q4;simp;omega);go_enter Tryz.func198,Tryz.ntmps198;go_wp2_with fail
       go_ret;exact ⟨zAk hf.out.symm,(Below.refl _ _).alloc (Nat.le_refl _) _⟩
  | false =>
   have hf:=qH (show (!lpB K l)=true by unfold lpB;rw [if_neg (show ¬l.kind=1 by simpa using k1),if_neg (show ¬l.kind=2 by simpa using k2)];rfl);go_enter Tryz.func198,Tryz.ntmps198;go_wp2_with fail
   go_ret;exact ⟨zAk hf.out.symm,(Below.refl _ _).alloc (Nat.le_refl _) _⟩
def zHH (K:Int) (L:List Lt) (i:Nat):Bool:=!lpB K (la L i)
set_option maxHeartbeats 1600000 in
theorem zFO (b p:Nat) (K:Int) (A:Option Addr) (n c:Nat) (L:List Lt) (w:World) (hA:Lets w A n L) (hb:w.cell? ⟨b,0,none⟩=some (.pointer (some ⟨p,0,none⟩))) (hp:w.cell? ⟨p,0,none⟩=some (.int .i64 K)) :
  Calls Tryz.prog 211 #[.slice A n c,.func (.func 198) #[] #[.pointer (some ⟨b,0,none⟩)]] w fun e w'=>e=.returned (.int .i64 (zFW (zHH K L) n))∧Below w.heap.size w w':=by
 have hle:=hA.le;have hblt:=World.block_lt_of_cell? w _ hb;have hplt:=World.block_lt_of_cell? w _ hp;go_enter Tryz.func211,Tryz.ntmps211;go_wp2_with fail
 go_loopw [8] (fun i wr=>∃k:Nat,k≤n∧i=.int .i64 k∧Below w.heap.size w wr∧Hid (NoneTo (zHH K L) k)) (fun i _=>n-(intOf i).toNat)
 case atStart=>exact ⟨0,Nat.zero_le _,rfl,Below.refl _ _,NoneTo.zero _⟩
 case round =>
  obtain ⟨k,hk,rfl,hbw,hno⟩:=hrel;by_cases hlt:k < n
  ·obtain ⟨g,o,rfl,hg,hx,hok⟩:=(hA.below hbw).at_ hlt;obtain ⟨h0,h1,h2,h3,h4,h5⟩:=hx;have hbr:=(hbw.cell (p:=⟨b,0,none⟩) hblt).trans hb;have hpr:=(hbw.cell (p:=⟨p,0,none⟩) hplt).trans hp
   cases hq:lpB K (la L k) with
   | true =>
    have hs:=qH (hno.out.succ (show zHH K L k=false by unfold zHH;rw [hq];rfl));have HQ:=qH hq;clear hno hq;go_wp2_with fail
    refine (zGe (la L k) b p K _ hbr hpr).mono ?_;rintro e w1 ⟨rfl,ay⟩;rw [HQ.out];have uq:=zAa hbw ay hbw.size;go_wp2_with fail
    go_roundw
    case rel=>exact ⟨k+1,by omega,by go_num,uq,hs⟩
    case measure=>simp [intOf];omega
   | false =>
    have hf:=qH (zFu (n:=n) hno.out (show zHH K L k=true by unfold zHH;rw [hq];rfl) hlt);have HQ:=qH hq;clear hno hq;go_wp2_with fail
    refine (zGe (la L k) b p K _ hbr hpr).mono ?_;rintro e w1 ⟨rfl,ay⟩;rw [HQ.out];have uq:=zAa hbw ay hbw.size;go_wp2_with fail
    go_ret;exact ⟨zCh hf.out.symm,uq⟩
  ·have hkn:k=n:=by omega
   subst hkn;go_wp2_with fail
   go_ret;exact ⟨zCh (zEf hno.out).symm,hbw⟩
set_option maxHeartbeats 400000 in
theorem zEa (b p:Nat) (K:Int) (A:Option Addr) (n c:Nat) (L:List Lt) (w:World) (hA:Lets w A n L) (hb:w.cell? ⟨b,0,none⟩=some (.pointer (some ⟨p,0,none⟩))) (hp:w.cell? ⟨p,0,none⟩=some (.int .i64 K)) :
  Calls Tryz.prog 197 #[.slice A n c,.func (.func 198) #[] #[.pointer (some ⟨b,0,none⟩)]] w fun e w'=>e=.returned (.bool (!zAC K L))∧Below w.heap.size w w':=by
 have HL:=qH hA.len
 have hf:=qH (show decide (0≤zFW (zHH K L) n) = !zAC K L by
  unfold zAC
  rw [HL.out]
  rcases zJK (zHH K L) n with ⟨h,h'⟩ | ⟨k,hk,h,_,hp⟩
  ·rw [h,zAI.2 (fun i hi=>by have:=h' i hi;unfold zHH at this;simpa using this)];rfl
  ·rw [h,zEw hk (by unfold zHH at hp;simpa using hp)];simp)
 go_enter Tryz.func197,Tryz.ntmps197;go_wp2_with fail
 refine (zFO b p K A n c L _ hA hb hp).mono ?_;rintro e w1 ⟨rfl,ay⟩;go_wp2_with fail
 go_ret;exact ⟨zAk hf.out,ay⟩
theorem zDf {x:Bool} (b p:Nat) (K:Int) (A:Option Addr) (n c:Nat) (L:List Lt) (w:World) (hx:zAC K L=x) (hA:Lets w A n L) (hb:w.cell? ⟨b,0,none⟩=some (.pointer (some ⟨p,0,none⟩))) (hp:w.cell? ⟨p,0,none⟩=some (.int .i64 K)) :
  Calls Tryz.prog 197 #[.slice A n c,.func (.func 198) #[] #[.pointer (some ⟨b,0,none⟩)]] w fun e w'=>e=.returned (.bool (!x))∧Below w.heap.size w w':=by
 subst hx;exact zEa b p K A n c L w hA hb hp
set_option maxHeartbeats 800000 in
theorem zHv (p:Nat) (K:Int) (A:Option Addr) (n c:Nat) (L:List Lt) (v2 v3 v4 v5 v6:Value) (w:World) (hA:Lets w A n L) (hd:Dia w p K A n c v2 v3 v4 v5 v6) :
  Calls Tryz.prog 175 #[.pointer (some ⟨p,0,none⟩)] w fun e w'=>e=.returned (.bool (zAC K L))∧Below w.heap.size w w':=by
 have hbb:=(Below.refl w.heap.size w).alloc (Nat.le_refl _) (.cells #[.pointer (some ⟨p,0,none⟩)] 143);have hc0:=(hbb.cell (p:=⟨p,0,none⟩) hd.lt).trans hd.c0;have oK:=(hbb.cell (p:=⟨p,1,none⟩) hd.lt).trans hd.c1;have hbx:(w.alloc (.cells #[.pointer (some ⟨p,0,none⟩)] 143)).cell? ⟨w.heap.size,0,none⟩=some (.pointer (some ⟨p,0,none⟩)):=by rw [World.cell?_alloc_at _ _ _ _ rfl];rfl
 obtain ⟨x,hx⟩:∃x,zAC K L=x:=⟨_,rfl⟩
 have HX:=qH hx;rw [hx];clear hx;go_enter Tryz.func175,Tryz.ntmps175;go_wp2_with fail
 refine (zDf w.heap.size p K A n c L _ HX.out (hA.below hbb) hbx hc0).mono ?_;rintro e w1 ⟨rfl,ay⟩;have ai:=hbb.trans (ay.mono (by simp));go_wp2_with fail
 go_ret;exact ⟨zAk (by simp),ai⟩
set_option maxHeartbeats 800000 in
theorem zIk (p:Nat) (K:Int) (A:Option Addr) (n c:Nat) (L:List Lt) (v2 v3 v4 v5 v6:Value) (w:World) (hA:Lets w A n L) (h0:0 < n) (hd:Dia w p K A n c v2 v3 v4 v5 v6) :
  Calls Tryz.prog 176 #[.pointer (some ⟨p,0,none⟩)] w fun e w'=>e=.returned (.bool (isP (la L 0)&&decide (pN L n % 2=0)))∧Below w.heap.size w w':=by
 have hc0:=hd.c0;have oK:=hd.c1;obtain ⟨g,o,rfl,hg,hx,_⟩:=hA.at_ h0;have hz:=hx.kind;simp only [Nat.zero_mul,Nat.add_zero] at hz;by_cases hk:(la L 0).kind=1
 ·have aq:((la L 0).kind==1)=true:=by simpa using hk
  have hf:=qH (show (isP (la L 0)&&decide (pN L n % 2=0))=((pN L n:Int) % 2==0) by rw [zJM hk];rw [Bool.eq_iff_iff];simp;omega);clear hk;go_enter Tryz.func176,Tryz.ntmps176;go_wp2_with fail
  refine (zKY K (some ⟨g,o,none⟩) n c L _ hA).mono ?_;rintro e w1 ⟨rfl,ay⟩;go_wp2_with fail
  go_ret;exact ⟨zAk hf.out.symm,ay⟩
 ·have aq:((la L 0).kind==1)=false:=by simpa using hk
  have hf:=qH (show (isP (la L 0)&&decide (pN L n % 2=0))=false by rw [zKX hk];rfl);clear hk;go_enter Tryz.func176,Tryz.ntmps176;go_wp2_with fail
  go_ret;exact ⟨zAk hf.out.symm,Below.refl _ _⟩
end Go.Proofs.YtlmdfmnbcndhoaaGreatDoor
