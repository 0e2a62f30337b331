/-
  Lemmas, part 27. Conditions: each theorem's own.
-/
import Derived.Test.YtlmdfmnbcndhoaaGreatDoorRq26
import Derived.Test.YtlmdfmnbcndhoaaGreatDoorRq02
open Go.Value renaming int→D,slice→H,string→W
open Go.IntKind renaming i64→J
open Option renaming none→U,some→Z
open Bool renaming false→E,true→Q
namespace Go.Proofs.YtlmdfmnbcndhoaaGreatDoor
open Go.RowKit
def zKN (L:List Fg) (o:Og):Prop:=zAr L.length o=Q∧o.path.length≤10000
theorem zQk (ZS:List (Nst×Bool)):4*ZS.length≤(ZS.flatMap stT).length:=by
 induction ZS with
 | nil=>simp
 | cons x ZS ih =>
  have:4≤(stT x).length:=by simp [stT,plT];omega
  rw [List.flatMap_cons,List.length_append,List.length_cons];omega
theorem zSf {n:Nop} (h:okN n):4*n.path.length≤(zJu n).length:=by
 by_cases hp:n.path=[]
 ·simp [hp]
 ·have hk:n.kind=3:=by
   rcases h.2 with ⟨_,_,h,_⟩ | ⟨_,_,h⟩ | ⟨h,_⟩ | ⟨_,_,h⟩ | ⟨_,_,h⟩
   ·exact absurd h hp
   ·exact absurd h hp
   ·exact h
   ·exact absurd h hp
   ·exact absurd h hp
  have:=zQk n.path;unfold zJu tlT;rw [if_neg (by omega),if_pos hk];simp only [List.length_cons,List.length_append];omega
theorem zSg {L:List Fg} {S:List UInt8} (h:zEU L S=0) (hS:S.length≤8000):zKN L (zHX L S):=by
 by_cases hx:∃n,okN n∧S=zDG n
 ·obtain ⟨n,h1,rfl⟩:=hx;obtain ⟨h2,h3⟩:=zHi L h1;rw [h2] at h;have hl:zAG L n=E:=by cases e:zAG L n<;>simp [e] at h ⊢
  rw [hl] at h3;rw [h3];refine ⟨(o_ok h1 hl).1,?_⟩;show (n.path.map (pOf L)).length≤_;rw [List.length_map];have h4:=zSf h1;have h5:=zGp (zDG n);rw [zEq] at h5;omega
 ·rw [(zNg L fun n h1 h2=>hx ⟨n,h1,h2⟩).1] at h;omega
theorem zIM (L:List Fg):∀(ws:List (List UInt8)) (O:List Og),(∀p∈ws,p.length≤8000)→(∀o∈O,zKN L o)→∀o∈(zBW L ws O).1,zKN L o
 | [],O,_,hO=>hO
 | [p],O,_,hO=>by
  unfold zBW;split
  ·exact hO
  ·simp
 | p :: q :: r,O,hw,hO=>by
  unfold zBW;split
  ·rename_i h;refine zIM L (q :: r) _ (fun x hx=>hw x (List.mem_cons_of_mem _ hx)) fun o ho=>?_
   rcases List.mem_append.1 ho with h1 | h1
   ·exact hO o h1
   ·rw [List.mem_singleton.1 h1];exact zSg h (hw p (List.mem_cons_self ..))
  ·simp
theorem zId (L:List Fg):∀(ws:List (List UInt8)) (O:List Og),(zBW L ws O).1.length≤O.length+ws.length
 | [],O=>by unfold zBW;simp
 | [p],O=>by unfold zBW;split<;>simp
 | p :: q :: r,O=>by
  unfold zBW;split
  ·have:=zId L (q :: r) (O++[zHX L p]);simp at this ⊢;omega
  ·simp
theorem zUD {L:List Fg} {re lo:Int} {S:List UInt8}:(∀o∈(rlR L re lo S).1,zKN L o)∧(rlR L re lo S).1.length≤8001:=by
 unfold rlR;by_cases h:zAS L re lo S=0
 ·rw [if_pos h];have hS:=(zCe h).1;refine ⟨zIM L _ [] (fun p hp=>Nat.le_trans (zCu 10 S p hp) hS) (by simp),?_⟩;have h1:=zId L (zBx 10 S) [];have h2:(zBx 10 S).length≤S.length+1:=by
   rw [zHb];have:=List.count_le_length (a:=(10:UInt8)) (l:=S);omega
  simp at h1;omega
 ·rw [if_neg h];simp
theorem zKO:∀{ws:List (List UInt8)} {ns:List Nop},zDi ws=Z ns→ns.length=ws.length∧∀n∈ns,∃p∈ws,zAJ p=Z n
 | [],ns,h=>by
  simp [zDi] at h;subst h;simp
 | p :: ws,ns,h=>by
  rw [zDi] at h
  cases h1:zAJ p with
  | none=>rw [h1] at h;simp at h
  | some n =>
   cases h2:zDi ws with
   | none=>rw [h1,h2] at h;simp at h
   | some ms =>
    rw [h1,h2] at h;simp only [Option.some.injEq] at h;subst h;obtain ⟨h3,h4⟩:=zKO h2;refine ⟨by simp [h3],fun m hm=>?_⟩;rcases List.mem_cons.1 hm with rfl | hm
    ·exact ⟨p,List.mem_cons_self ..,h1⟩
    ·obtain ⟨q,hq,he⟩:=h4 m hm;exact ⟨q,List.mem_cons_of_mem _ hq,he⟩
theorem zUE {L:List Fg} {re lo:Int} {S:List UInt8}:(∀o∈rsO L re lo S,zKN L o)∧(rsO L re lo S).length≤8001:=by
 unfold rsO;by_cases h:zAS L re lo S=0
 ·rw [if_pos h];have hS:=(zCe h).1;unfold itO;by_cases h0:S=[]
  ·rw [if_pos h0];simp
  ·rw [if_neg h0]
   cases hs:zDi (zBx 32 S) with
   | none=>simp
   | some ns =>
    simp only;by_cases hl:ns.any (zAG L)=Q
    ·rw [if_pos hl];simp
    ·rw [if_neg hl];obtain ⟨h1,h2⟩:=zKO hs;refine ⟨fun o ho=>?_,?_⟩
     ·obtain ⟨n,hn,rfl⟩:=List.mem_map.1 ho;obtain ⟨p,hp,hpn⟩:=h2 n hn;have h3:=zGk hpn;have h4:zAG L n=E:=by
       cases e:zAG L n with
       | false=>rfl
       | true=>exact absurd (List.any_eq_true.2 ⟨n,hn,e⟩) hl
      refine ⟨(o_ok h3.1 h4).1,?_⟩;show (n.path.map (pOf L)).length≤_;rw [List.length_map];have h5:=zNh h3.1;rw [←h3.2.2] at h5;have h6:=zCu 32 S p hp;omega
     ·rw [List.length_map,h1];have:=zCv S;omega
 ·rw [if_neg h];simp
theorem zFD {L:List Fg} {w:World} {base:Nat} {B:Option Addr} {m d:Nat} {Es:List Oe} (h:OpsOwn w base B m d Es) (hm:m≤1000000) {O:List Og} (hE:List.map (fun x:Oe=>x.o) Es=O) (hg:∀o∈O,zKN L o) (hl:O.length≤8001) :
  Oprs w B m Es∧m≤10000∧zVW Es∧(∀i,i < Es.length→zAr L.length (oa Es i).o=Q)∧O.all (zAr L.length)=Q:=by
 have hO:=h.oprs hm;have hlen:Es.length=m:=hO.len;have h1:Es.length=O.length:=by rw [←hE,List.length_map]
 have hmem:∀e∈Es,zKN L e.o:=fun e he=>hg _ (by rw [←hE];exact List.mem_map_of_mem he)
 refine ⟨hO,by omega,fun e he=>?_,fun i hi=>?_,?_⟩
 ·have h2:=(h.ok e he).2.1.len;have h3:=(hmem e he).2;omega
 ·exact (hmem _ (List.mem_of_getElem? (zCX hi))).1
 ·rw [List.all_eq_true];intro o ho;exact (hg o ho).1
set_option maxHeartbeats 1600000 in
theorem zOo (F:Fm) (S:List UInt8) (w:World) (hA:Fgs w F.A F.n F.L) (hc:F.n≤F.c) (ht:Tabs w) :
  Calls Tryz.prog 238 #[.agg #[],frV F.A F.n F.c F.re F.lo,W (bA S)] w (zGr w (rlR F.L F.re F.lo S).1 (rlR F.L F.re F.lo S).2.2):=by
 have aa:Below w.heap.size w ((w.alloc (.cells #[] 183)).alloc (.cells #[H F.A F.n F.c,D J F.re,D J F.lo] 24)):=((Below.refl _ _).alloc (Nat.le_refl _) _).alloc (by simp) _;have HC:=qH (zIa F S _ (hA.below aa) hc (ht.below aa));have HB:=qH aa;clear hA ht aa;go_enter Tryz.func238,Tryz.ntmps238;go_wp2_with fail
 refine HC.out.mono ?_;rintro e Y ⟨B,m,d,Es,rfl,h1,h2,h3,h4⟩;have HF:=qH (show zGr w (rlR F.L F.re F.lo S).1 (rlR F.L F.re F.lo S).2.2 (.returned (.tuple #[H B m d,D J (rlR F.L F.re F.lo S).2.2])) Y from ⟨B,m,d,Es,rfl,h1,h2,h3.mono HB.out.size,zAa HB.out h4 HB.out.size⟩);clear h1 h2 h3 h4;go_wp2_with fail
 go_ret2;exact HF.out
set_option maxHeartbeats 1600000 in
theorem zOp (F:Fm) (S:List UInt8) (w:World) (hA:Fgs w F.A F.n F.L) (hc:F.n≤F.c) (ht:Tabs w) :
  Calls Tryz.prog 240 #[.agg #[],frV F.A F.n F.c F.re F.lo,W (bA S)] w (zGr w (rsO F.L F.re F.lo S) (rsE F.L F.re F.lo S)):=by
 have aa:Below w.heap.size w ((w.alloc (.cells #[] 184)).alloc (.cells #[H F.A F.n F.c,D J F.re,D J F.lo] 24)):=((Below.refl _ _).alloc (Nat.le_refl _) _).alloc (by simp) _;have HC:=qH (zIc F S _ (hA.below aa) hc (ht.below aa));have HB:=qH aa;clear hA ht aa;go_enter Tryz.func240,Tryz.ntmps240;go_wp2_with fail
 refine HC.out.mono ?_;rintro e Y ⟨B,m,d,Es,rfl,h1,h2,h3,h4⟩;have HF:=qH (show zGr w (rsO F.L F.re F.lo S) (rsE F.L F.re F.lo S) (.returned (.tuple #[H B m d,D J (rsE F.L F.re F.lo S)])) Y from ⟨B,m,d,Es,rfl,h1,h2,h3.mono HB.out.size,zAa HB.out h4 HB.out.size⟩);clear h1 h2 h3 h4;go_wp2_with fail
 go_ret2;exact HF.out
set_option maxHeartbeats 1600000 in
theorem zIe (F:Fm) (B:Option Addr) (m d:Nat) (Es:List Oe) (w:World) (hA:Fgs w F.A F.n F.L) (hc:F.n≤F.c) (ht:Tabs w) (hv:frB F.L F.re F.lo=Q) (hO:Oprs w B m Es) (hm:m≤10000) (hf:zVW Es) {O:List Og} (hE:List.map (fun x:Oe=>x.o) Es=O) (hr:O.all (zAr F.L.length)=Q) :
  Calls Tryz.prog 239 #[.agg #[],frV F.A F.n F.c F.re F.lo,H B m d] w fun e w'=>e=.returned (.tuple #[W (bA (zDD F.L O)),D J 0])∧Below w.heap.size w w':=by
 have aa:Below w.heap.size w ((w.alloc (.cells #[] 183)).alloc (.cells #[H F.A F.n F.c,D J F.re,D J F.lo] 24)):=((Below.refl _ _).alloc (Nat.le_refl _) _).alloc (by simp) _;have h1:=zLM F.A F.n F.c F.L F.re F.lo B m d Es _ (hA.below aa) hc (hO.below aa) hm hf (ht.below aa);have h2:zBi F.L F.re F.lo (Es.map (·.o))=0:=by unfold zBi;rw [hE,hv,hr];rfl
 rw [h2,if_pos rfl,hE] at h1;have HC:=qH h1;have HB:=qH aa;clear hA ht aa h1 h2 hO;go_enter Tryz.func239,Tryz.ntmps239;go_wp2_with fail
 refine HC.out.mono ?_;rintro e Y ⟨rfl,h4⟩;have HF:=qH (zAa HB.out h4 HB.out.size);clear h4;go_wp2_with fail
 go_ret2;exact ⟨rfl,HF.out⟩
set_option maxHeartbeats 1600000 in
theorem zIf (F:Fm) (B:Option Addr) (m d:Nat) (Es:List Oe) (w:World) (hA:Fgs w F.A F.n F.L) (hc:F.n≤F.c) (hv:frB F.L F.re F.lo=Q) (hO:Oprs w B m Es) (hm:m≤10000) (hf:zVW Es) {O:List Og} (hE:List.map (fun x:Oe=>x.o) Es=O) (hr:O.all (zAr F.L.length)=Q) (hcn:O.all (zDI F.L)=Q) :
  Calls Tryz.prog 241 #[.agg #[],frV F.A F.n F.c F.re F.lo,H B m d] w fun e w'=>e=.returned (.tuple #[W (bA (zHE F.L O)),D J 0])∧Below w.heap.size w w':=by
 have aa:Below w.heap.size w ((w.alloc (.cells #[] 184)).alloc (.cells #[H F.A F.n F.c,D J F.re,D J F.lo] 24)):=((Below.refl _ _).alloc (Nat.le_refl _) _).alloc (by simp) _;have h1:=zLO F.A F.n F.c F.L F.re F.lo B m d Es _ (hA.below aa) hc (hO.below aa) hm hf;have h2:zBi F.L F.re F.lo O=0:=by unfold zBi;rw [hv,hr];rfl
 have h3:zRt F.L F.re F.lo O=0:=by unfold zRt;rw [h2,if_pos rfl,hcn,if_pos rfl]
 have h5:zUe F.L F.re F.lo O=zHE F.L O:=by unfold zUe;rw [h3,if_pos rfl]
 rw [hE,h3,h5] at h1;have HC:=qH h1;have HB:=qH aa;clear hA aa h1 h2 h3 h5 hO;go_enter Tryz.func241,Tryz.ntmps241;go_wp2_with fail
 refine HC.out.mono ?_;rintro e Y ⟨rfl,h4⟩;have HF:=qH (zAa HB.out h4 HB.out.size);clear h4;go_wp2_with fail
 go_ret2;exact ⟨rfl,HF.out⟩
noncomputable def ntO (L:List Fg) (re lo:Int) (k:Int) (S:List UInt8):List Og:=if k=1 then (rlR L re lo S).1 else rsO L re lo S
noncomputable def ntE (L:List Fg) (re lo:Int) (k:Int) (S:List UInt8):Int:=if k=1 then (rlR L re lo S).2.2 else rsE L re lo S
def ntW (L:List Fg) (k:Int) (O:List Og):List UInt8:=if k=1 then zDD L O else zHE L O
noncomputable def trE (L:List Fg) (re lo:Int) (S:List UInt8) (from_ to_:Int):Int :=
 if frB L re lo=Q∧(from_=1∨from_=2)∧(to_=1∨to_=2) then
  if ntE L re lo from_ S=0 then (if to_=2∧(ntO L re lo from_ S).all (zDI L)=E then 8 else 0) else ntE L re lo from_ S
 else 2
noncomputable def trS (L:List Fg) (re lo:Int) (S:List UInt8) (from_ to_:Int):List UInt8:=if trE L re lo S from_ to_=0 then ntW L to_ (ntO L re lo from_ S) else []
theorem zUF {L:List Fg} {re lo k:Int} {S:List UInt8}:(∀o∈ntO L re lo k S,zKN L o)∧(ntO L re lo k S).length≤8001:=by
 unfold ntO;split
 ·exact zUD
 ·exact zUE
theorem zUG (F:Fm) (S:List UInt8) (k:Int) (hk:k=1∨k=2) (w:World) (hA:Fgs w F.A F.n F.L) (hc:F.n≤F.c) (ht:Tabs w) :
  Calls Tryz.prog (if k=1 then 238 else 240) #[.agg #[],frV F.A F.n F.c F.re F.lo,W (bA S)] w (zGr w (ntO F.L F.re F.lo k S) (ntE F.L F.re F.lo k S)):=by
 rcases hk with rfl | rfl
 ·exact zOo F S w hA hc ht
 ·exact zOp F S w hA hc ht
theorem zUH (w : World) : (method 365 183 (.agg #[]) "catscradle/notes.read").run Tryz.prog w = .ok (238, .agg #[]) w := by kernel_rfl
theorem zUI (w : World) : (method 365 184 (.agg #[]) "catscradle/notes.read").run Tryz.prog w = .ok (240, .agg #[]) w := by kernel_rfl
theorem zUJ (w : World) : (method 365 183 (.agg #[]) "catscradle/notes.write").run Tryz.prog w = .ok (239, .agg #[]) w := by kernel_rfl
theorem zUK (w : World) : (method 365 184 (.agg #[]) "catscradle/notes.write").run Tryz.prog w = .ok (241, .agg #[]) w := by kernel_rfl
set_option maxHeartbeats 12800000 in
set_option maxRecDepth 100000 in
theorem zIg (F:Fm) (S:List UInt8) (p q:Int) (w:World) (hA:Fgs w F.A F.n F.L) (hc:F.n≤F.c) (ht:Tabs w) :
  Calls Tryz.prog 40 #[frV F.A F.n F.c F.re F.lo,W (bA S),D J p,D J q] w fun e w'=>e=.returned (.tuple #[W (bA (trS F.L F.re F.lo S p q)),D J (trE F.L F.re F.lo S p q)])∧Below w.heap.size w w':=by
 have aa:Below w.heap.size w (w.alloc (.cells #[H F.A F.n F.c,D J F.re,D J F.lo] 24)):=(Below.refl _ _).alloc (Nat.le_refl _) _;have hk0:Blk (w.alloc (.cells #[H F.A F.n F.c,D J F.re,D J F.lo] 24)) w.heap.size 24 #[H F.A F.n F.c,D J F.re,D J F.lo]:=Blk.new _ _ _;obtain ⟨b,hb⟩:∃b,frB F.L F.re F.lo=b:=⟨_,rfl⟩
 obtain ⟨ZT,hE⟩:∃x,trE F.L F.re F.lo S p q=x:=⟨_,rfl⟩
 obtain ⟨T,hT⟩:∃x,trS F.L F.re F.lo S p q=x:=⟨_,rfl⟩
 rw [hE,hT];have HE:=qH hE;have dt:=qH hT;have HB:=qH hb;have HA:=qH hA;have HT:=qH ht;have HV:=qH (zFo hb F.A F.n F.c _ (hA.below aa) hc);have Fl:=qH (fun k wx=>zKM k wx)
 have td:=qH (fun (h:¬(frB F.L F.re F.lo=Q∧(p=1∨p=2)∧(q=1∨q=2)))=>(show ZT=2∧T=[] by
  have h1:ZT=2:=by rw [←hE];unfold trE;rw [if_neg h]
  refine ⟨h1,?_⟩
  rw [←hT];unfold trS;rw [hE,h1];rfl))
 clear hE hT hb hA ht;go_enter Tryz.func40,Tryz.ntmps40;go_wp2_with fail
 generalize w.alloc (.cells #[H F.A F.n F.c,D J F.re,D J F.lo] 24)=Y at aa hk0 HV ⊢;refine HV.out.mono ?_;rintro e Y2 ⟨rfl,ab⟩;have aC:=hk0.below ab hk0.lt;have ac:=zAa aa ab aa.size;clear hk0 aa ab HV
 cases b with
 | false =>
  have HF:=qH (td.out (fun h=>by rw [HB.out] at h;cases h.1));clear td aC;go_wp2_with fail
  go_ret2;exact ⟨by rw [HF.out.1,HF.out.2];rfl,ac⟩
 | true =>
  go_wp2_with fail
  refine (Fl.out p _).mono ?_;rintro e Y3 ⟨rfl,rfl⟩;go_wp2_with fail
  refine (Fl.out q _).mono ?_;rintro e Y4 ⟨rfl,rfl⟩;by_cases hp:p=1∨p=2
  ·by_cases hq:q=1∨q=2
   ·have v0:Y4.cell? ⟨w.heap.size,0,U⟩=Z (H F.A F.n F.c):=(aC.cell 0).trans rfl;obtain ⟨-,v1,v2⟩:=cQ3 aC;have AK:=zUF (L:=F.L) (re:=F.re) (lo:=F.lo) (k:=p) (S:=S);have AE:=zUG F S p hp Y4 (HA.out.below ac) hc (HT.out.below ac);have Ay:ZT=if ntE F.L F.re F.lo p S=0 then (if q=2∧(ntO F.L F.re F.lo p S).all (zDI F.L)=E then 8 else 0) else ntE F.L F.re F.lo p S:=by rw [←HE.out];unfold trE;rw [if_pos ⟨HB.out,hp,hq⟩]
    have Ax:T=if ZT=0 then ntW F.L q (ntO F.L F.re F.lo p S) else []:=by rw [←dt.out];unfold trS;rw [HE.out]
    obtain ⟨O,AI⟩:∃x,ntO F.L F.re F.lo p S=x:=⟨_,rfl⟩
    obtain ⟨er,her⟩:∃x,ntE F.L F.re F.lo p S=x:=⟨_,rfl⟩
    rw [AI,her] at AE Ay;rw [AI] at Ax AK;have rk:=qH AK;have lZ:=qH AE;have iv:=qH Ay;have nG:=qH Ax;have mwr:=zUH;have msr:=zUI;have mww:=zUJ;have msw:=zUK;clear td AK AE Ay Ax AI her;rcases hp with rfl | rfl
    ·rcases hq with rfl | rfl
     ·skip;rw [if_pos rfl] at lZ;rw [show zKc 1=.iface 183 (.agg #[]) from rfl];go_wp2_with fail
      refine lZ.out.mono ?_;rintro e Y5 ⟨B,m,d,Es,rfl,fP,hm,hO,ai⟩;have nk:=qH fP;have ao:=zAa ac ai ac.size;have dV:=aC.below ai aC.lt;obtain ⟨u0,u1,u2⟩:=cQ3 dV;by_cases h0:er=0
      ·subst h0;obtain ⟨fO,da,hfi,hri,hal⟩:=zFD hO hm fP rk.out.1 rk.out.2;have hnl:F.n=F.L.length:=HA.out.len.symm;have lc:=qH (zFC F.A F.n F.c F.L F.re F.lo 1 (by omega) B m d Es Y5 (HA.out.below ao) fO (by rw [hnl];exact hri));obtain ⟨av,hav⟩:∃x,zTt F.L 1 Es=x:=⟨_,rfl⟩
       rw [hav] at lc;have lG:=qH (iv.out.trans (if_pos rfl));have HK:=qH (And.intro fO (And.intro da (And.intro hfi hal)));have oM:=qH hav;clear hO hm fP fO da hfi hri hal hav hnl lZ v0 v1 v2;go_wp2_with fail
       refine lc.out.mono ?_;rintro e Y6 ⟨rfl,be⟩;have bc:=zAa ao be ao.size;have kC:=dV.below be dV.lt;obtain ⟨t0,t1,t2⟩:=cQ3 kC;clear u0 u1 u2
       cases av with
       | true =>
        have dv:Hid (ZT=0):=qH (by rw [lG.out,if_neg (by omega)]);have lY:=qH (zIe F B m d Es Y6 (HA.out.below bc) hc (HT.out.below bc) HB.out (HK.out.1.below be) HK.out.2.1 HK.out.2.2.1 nk.out HK.out.2.2.2);have fS:=qH (show T=zDD F.L O by rw [nG.out,dv.out];rfl);go_wp2_with fail
        refine lY.out.mono ?_;rintro e Y7 ⟨rfl,aP⟩;have bW:=zAa bc aP bc.size;clear t0 t1 t2;go_wp2_with fail
        go_ret2;exact ⟨by rw [dv.out,fS.out];rfl,bW⟩
       | false =>
        exact absurd oM.out (by rw [show zTt F.L 1 Es=Q from rfl];simp)
      ·have dv:Hid (ZT=er):=qH (by rw [iv.out,if_neg h0]);have fS:Hid (T=[]):=qH (by rw [nG.out,dv.out,if_neg h0]);have k0:(er != 0)=Q:=by simpa using h0
       clear h0 hO hm fP u0 u1 u2 v0 v1 v2;go_wp2_with fail
       go_ret2;exact ⟨by rw [dv.out,fS.out];rfl,ao⟩
     ·skip;rw [if_pos rfl] at lZ;rw [show zKc 1=.iface 183 (.agg #[]) from rfl,show zKc 2=.iface 184 (.agg #[]) from rfl];go_wp2_with fail
      refine lZ.out.mono ?_;rintro e Y5 ⟨B,m,d,Es,rfl,fP,hm,hO,ai⟩;have nk:=qH fP;have ao:=zAa ac ai ac.size;have dV:=aC.below ai aC.lt;obtain ⟨u0,u1,u2⟩:=cQ3 dV;by_cases h0:er=0
      ·subst h0;obtain ⟨fO,da,hfi,hri,hal⟩:=zFD hO hm fP rk.out.1 rk.out.2;have hnl:F.n=F.L.length:=HA.out.len.symm;have lc:=qH (zFC F.A F.n F.c F.L F.re F.lo 2 (by omega) B m d Es Y5 (HA.out.below ao) fO (by rw [hnl];exact hri));obtain ⟨av,hav⟩:∃x,zTt F.L 2 Es=x:=⟨_,rfl⟩
       rw [hav] at lc;have lG:=qH (iv.out.trans (if_pos rfl));have HK:=qH (And.intro fO (And.intro da (And.intro hfi hal)));have oM:=qH hav;clear hO hm fP fO da hfi hri hal hav hnl lZ v0 v1 v2;go_wp2_with fail
       refine lc.out.mono ?_;rintro e Y6 ⟨rfl,be⟩;have bc:=zAa ao be ao.size;have kC:=dV.below be dV.lt;obtain ⟨t0,t1,t2⟩:=cQ3 kC;clear u0 u1 u2
       cases av with
       | true =>
        have hcn:O.all (zDI F.L)=Q:=by rw [←nk.out,List.all_map];exact oM.out
        have dv:Hid (ZT=0):=qH (by rw [lG.out,if_neg (by rw [hcn];simp)]);have lY:=qH (zIf F B m d Es Y6 (HA.out.below bc) hc HB.out (HK.out.1.below be) HK.out.2.1 HK.out.2.2.1 nk.out HK.out.2.2.2 hcn);have fS:=qH (show T=zHE F.L O by rw [nG.out,dv.out];rfl);clear hcn;go_wp2_with fail
        refine lY.out.mono ?_;rintro e Y7 ⟨rfl,aP⟩;have bW:=zAa bc aP bc.size;clear t0 t1 t2;go_wp2_with fail
        go_ret2;exact ⟨by rw [dv.out,fS.out];rfl,bW⟩
       | false =>
        have hcn:O.all (zDI F.L)=E:=by rw [←nk.out,List.all_map];exact oM.out
        have dv:Hid (ZT=8):=qH (by rw [lG.out,if_pos (by first | exact ⟨rfl,hcn⟩ | exact ⟨trivial,hcn⟩)]);have fS:=qH (show T=[] by rw [nG.out,dv.out];rfl);clear hcn;go_wp2_with fail
        go_ret2;exact ⟨by rw [dv.out,fS.out];rfl,bc⟩
      ·have dv:Hid (ZT=er):=qH (by rw [iv.out,if_neg h0]);have fS:Hid (T=[]):=qH (by rw [nG.out,dv.out,if_neg h0]);have k0:(er != 0)=Q:=by simpa using h0
       clear h0 hO hm fP u0 u1 u2 v0 v1 v2;go_wp2_with fail
       go_ret2;exact ⟨by rw [dv.out,fS.out];rfl,ao⟩
    ·rcases hq with rfl | rfl
     ·skip;rw [if_neg (by omega)] at lZ;rw [show zKc 2=.iface 184 (.agg #[]) from rfl,show zKc 1=.iface 183 (.agg #[]) from rfl];go_wp2_with fail
      refine lZ.out.mono ?_;rintro e Y5 ⟨B,m,d,Es,rfl,fP,hm,hO,ai⟩;have nk:=qH fP;have ao:=zAa ac ai ac.size;have dV:=aC.below ai aC.lt;obtain ⟨u0,u1,u2⟩:=cQ3 dV;by_cases h0:er=0
      ·subst h0;obtain ⟨fO,da,hfi,hri,hal⟩:=zFD hO hm fP rk.out.1 rk.out.2;have hnl:F.n=F.L.length:=HA.out.len.symm;have lc:=qH (zFC F.A F.n F.c F.L F.re F.lo 1 (by omega) B m d Es Y5 (HA.out.below ao) fO (by rw [hnl];exact hri));obtain ⟨av,hav⟩:∃x,zTt F.L 1 Es=x:=⟨_,rfl⟩
       rw [hav] at lc;have lG:=qH (iv.out.trans (if_pos rfl));have HK:=qH (And.intro fO (And.intro da (And.intro hfi hal)));have oM:=qH hav;clear hO hm fP fO da hfi hri hal hav hnl lZ v0 v1 v2;go_wp2_with fail
       refine lc.out.mono ?_;rintro e Y6 ⟨rfl,be⟩;have bc:=zAa ao be ao.size;have kC:=dV.below be dV.lt;obtain ⟨t0,t1,t2⟩:=cQ3 kC;clear u0 u1 u2
       cases av with
       | true =>
        have dv:Hid (ZT=0):=qH (by rw [lG.out,if_neg (by omega)]);have lY:=qH (zIe F B m d Es Y6 (HA.out.below bc) hc (HT.out.below bc) HB.out (HK.out.1.below be) HK.out.2.1 HK.out.2.2.1 nk.out HK.out.2.2.2);have fS:=qH (show T=zDD F.L O by rw [nG.out,dv.out];rfl);go_wp2_with fail
        refine lY.out.mono ?_;rintro e Y7 ⟨rfl,aP⟩;have bW:=zAa bc aP bc.size;clear t0 t1 t2;go_wp2_with fail
        go_ret2;exact ⟨by rw [dv.out,fS.out];rfl,bW⟩
       | false =>
        exact absurd oM.out (by rw [show zTt F.L 1 Es=Q from rfl];simp)
      ·have dv:Hid (ZT=er):=qH (by rw [iv.out,if_neg h0]);have fS:Hid (T=[]):=qH (by rw [nG.out,dv.out,if_neg h0]);have k0:(er != 0)=Q:=by simpa using h0
       clear h0 hO hm fP u0 u1 u2 v0 v1 v2;go_wp2_with fail
       go_ret2;exact ⟨by rw [dv.out,fS.out];rfl,ao⟩
     ·skip;rw [if_neg (by omega)] at lZ;rw [show zKc 2=.iface 184 (.agg #[]) from rfl];go_wp2_with fail
      refine lZ.out.mono ?_;rintro e Y5 ⟨B,m,d,Es,rfl,fP,hm,hO,ai⟩;have nk:=qH fP;have ao:=zAa ac ai ac.size;have dV:=aC.below ai aC.lt;obtain ⟨u0,u1,u2⟩:=cQ3 dV;by_cases h0:er=0
      ·subst h0;obtain ⟨fO,da,hfi,hri,hal⟩:=zFD hO hm fP rk.out.1 rk.out.2;have hnl:F.n=F.L.length:=HA.out.len.symm;have lc:=qH (zFC F.A F.n F.c F.L F.re F.lo 2 (by omega) B m d Es Y5 (HA.out.below ao) fO (by rw [hnl];exact hri));obtain ⟨av,hav⟩:∃x,zTt F.L 2 Es=x:=⟨_,rfl⟩
       rw [hav] at lc;have lG:=qH (iv.out.trans (if_pos rfl));have HK:=qH (And.intro fO (And.intro da (And.intro hfi hal)));have oM:=qH hav;clear hO hm fP fO da hfi hri hal hav hnl lZ v0 v1 v2;go_wp2_with fail
       refine lc.out.mono ?_;rintro e Y6 ⟨rfl,be⟩;have bc:=zAa ao be ao.size;have kC:=dV.below be dV.lt;obtain ⟨t0,t1,t2⟩:=cQ3 kC;clear u0 u1 u2
       cases av with
       | true =>
        have hcn:O.all (zDI F.L)=Q:=by rw [←nk.out,List.all_map];exact oM.out
        have dv:Hid (ZT=0):=qH (by rw [lG.out,if_neg (by rw [hcn];simp)]);have lY:=qH (zIf F B m d Es Y6 (HA.out.below bc) hc HB.out (HK.out.1.below be) HK.out.2.1 HK.out.2.2.1 nk.out HK.out.2.2.2 hcn);have fS:=qH (show T=zHE F.L O by rw [nG.out,dv.out];rfl);clear hcn;go_wp2_with fail
        refine lY.out.mono ?_;rintro e Y7 ⟨rfl,aP⟩;have bW:=zAa bc aP bc.size;clear t0 t1 t2;go_wp2_with fail
        go_ret2;exact ⟨by rw [dv.out,fS.out];rfl,bW⟩
       | false =>
        have hcn:O.all (zDI F.L)=E:=by rw [←nk.out,List.all_map];exact oM.out
        have dv:Hid (ZT=8):=qH (by rw [lG.out,if_pos (by first | exact ⟨rfl,hcn⟩ | exact ⟨trivial,hcn⟩)]);have fS:=qH (show T=[] by rw [nG.out,dv.out];rfl);clear hcn;go_wp2_with fail
        go_ret2;exact ⟨by rw [dv.out,fS.out];rfl,bc⟩
      ·have dv:Hid (ZT=er):=qH (by rw [iv.out,if_neg h0]);have fS:Hid (T=[]):=qH (by rw [nG.out,dv.out,if_neg h0]);have k0:(er != 0)=Q:=by simpa using h0
       clear h0 hO hm fP u0 u1 u2 v0 v1 v2;go_wp2_with fail
       go_ret2;exact ⟨by rw [dv.out,fS.out];rfl,ao⟩
   ·have HF:=qH (td.out (fun h=>hq h.2.2));have hqn:zKc q=.nilIface:=by unfold zKc;rw [if_neg (fun e=>hq (.inl e)),if_neg (fun e=>hq (.inr e))]
    rw [hqn];clear hq hqn td aC;rcases hp with rfl | rfl
    ·rw [show zKc 1=.iface 183 (.agg #[]) from rfl];go_wp2_with fail
     go_ret2;exact ⟨by rw [HF.out.1,HF.out.2];rfl,ac⟩
    ·rw [show zKc 2=.iface 184 (.agg #[]) from rfl];go_wp2_with fail
     go_ret2;exact ⟨by rw [HF.out.1,HF.out.2];rfl,ac⟩
  ·have HF:=qH (td.out (fun h=>hp h.2.1));have hpn:zKc p=.nilIface:=by unfold zKc;rw [if_neg (fun e=>hp (.inl e)),if_neg (fun e=>hp (.inr e))]
   rw [hpn];clear hp hpn td aC;go_wp2_with fail
   go_ret2;exact ⟨by rw [HF.out.1,HF.out.2];rfl,ac⟩
structure Bi where
 f:Int
 n:Int
 b:Bool
instance : DecidableEq Bi := fun x y =>
 if h:x.f=y.f∧x.n=y.n∧x.b=y.b then .isTrue (by cases x;cases y;simp at h;simp [h])
 else .isFalse (fun e=>h (by subst e;simp))
def bi0:Bi:=⟨0,0,E⟩
def ba (l:List Bi) (i:Nat):Bi:=(l[i]?).getD bi0
theorem zNi {l:List Bi} {i:Nat} (h:i < l.length):l[i]? = Z (ba l i):=by unfold ba;rw [List.getElem?_eq_getElem h];rfl
theorem zXG {l:List Bi} {i:Nat} {x:Bi} (h:l[i]? = Z x):ba l i=x:=by unfold ba;rw [h];rfl
def zHj (x:List UInt8):List UInt8×List UInt8×Bool:=Lib.cut x.dropLast [46]
def zBZ (x:List UInt8) (c:UInt8):Bool:=decide (x.getLast? = Z c)
noncomputable def zNj (L:List Fg) (x:List UInt8):Bi :=
 if (zHj x).2.2 then ⟨if zEy L (zHj x).1=0 then -1 else (zEy L (zHj x).1:Int),(zAu (zHj x).2.1).1,zBZ x 62⟩
 else ⟨0,(zAu x.dropLast).1,zBZ x 111⟩
noncomputable def zOq (x:List UInt8):Bool :=
 if (zHj x).2.2 then (zKD (zHj x).1||!(zBZ x 62||zBZ x 60))||!(zAu (zHj x).2.1).2
 else !(zBZ x 111||zBZ x 117)||!(zAu x.dropLast).2
def zTu (x:List UInt8):Bool:=!(zHj x).2.2
noncomputable def zUL (L:List Fg) (x:List UInt8):Bool:=(zHj x).2.2&&zEQ L (zHj x).1
def zSh (T:List (List UInt8)):Bool:=match T with
 | []=>E
 | x :: _=>zTu x
noncomputable def zEW (T:List (List UInt8)):Bool:=T.any zOq||zSh T
noncomputable def zGt (L:List Fg) (T:List (List UInt8)):Bool:=T.any (zUL L)
theorem zOr (T:List (List UInt8)) (x:List UInt8):zEW (T++[x])=(zEW T||(zOq x||(T.isEmpty&&zTu x))):=by
 unfold zEW
 cases T with
 | nil=>simp [zSh]
 | cons y T =>
  simp only [List.cons_append,List.any_cons,List.any_append,List.any_nil,zSh,List.isEmpty_cons,Bool.false_and,Bool.or_false]
  cases zOq y<;>cases T.any zOq<;>cases zOq x<;>cases zTu y<;>rfl
theorem zOs (L:List Fg) (T:List (List UInt8)) (x:List UInt8):zGt L (T++[x])=(zGt L T||zUL L x):=by simp [zGt]
def zGI (b:Bi):Bi:=if 0 < b.f then ⟨b.f,b.n,E⟩ else b
def zNk (l:List Bi) (f:Int):Nat:=l.countP fun b=>decide (0 < b.f)&&b.f==f
def zGu (l:List Bi):Nat:=l.countP fun b=>!decide (0 < b.f)
def zCG (k:Nat) (l:List Bi):List Int:=(List.range (k+2)).map fun f:Nat=>((zNk l (f:Int):Nat):Int)
def zJK (l:List Bi) (b:Bi):Bool:=(decide (0 < b.f)&&decide ((zNk l b.f:Int) < b.n))||(b.f==0&&(decide (((zGu l / 2:Nat):Int) < b.n)||zGu l % 2 != 0))
def zGv (l:List Bi):Bool:=decide ((l.map zGI).Nodup)&&l.all fun b=>!zJK l b
def ia (M:List Int) (i:Int):Int:=(M[i.toNat]?).getD 0
def zMe (M:List Int) (b:Bi):List Lt :=
 if b.f=0 then [⟨2,0,0,b.n,0,b.b⟩]
 else if b.b then [⟨1,b.f-1,ia M (b.f-1)+b.n,0,0,E⟩,⟨1,b.f,ia M b.f-b.n+1,0,0,E⟩]
 else [⟨1,b.f,ia M b.f-b.n+1,0,0,E⟩,⟨1,b.f-1,ia M (b.f-1)+b.n,0,0,E⟩]
def zBf (M:List Int) (l:List Bi):List Lt:=l.flatMap (zMe M)
theorem zQl (M:List Int) (b:Bi):(zMe M b).length≤2:=by
 unfold zMe;split
 ·simp
 ·split<;>simp
theorem zOt (M:List Int) (l:List Bi):(zBf M l).length≤2*l.length:=by
 unfold zBf
 induction l with
 | nil=>simp
 | cons b l ih=>rw [List.flatMap_cons,List.length_append,List.length_cons];have:=zQl M b;omega
theorem zMf (l:List Bi) (f:Int):zNk l f≤l.length:=List.countP_le_length
theorem zMg (l:List Bi):zGu l≤l.length:=List.countP_le_length
theorem zGw (k:Nat) (l:List Bi) {f:Nat} (h:f < k+2):(zCG k l)[f]? = Z ((zNk l (f:Int):Nat):Int):=by
 unfold zCG;rw [List.getElem?_map,List.getElem?_range h];rfl
theorem zHk (k:Nat) (l:List Bi):(zCG k l).length=k+2:=by simp [zCG]
theorem zUM {l:List Bi} {b:Bi} {f:Int} (h:0 < b.f) (e:b.f=f):zNk (l++[b]) f=zNk l f+1:=by
 unfold zNk;rw [List.countP_append,List.countP_singleton,if_pos (by simp [e];omega)]
theorem zTv {l:List Bi} {b:Bi} {f:Int} (h:¬(0 < b.f∧b.f=f)):zNk (l++[b]) f=zNk l f:=by
 unfold zNk;rw [List.countP_append,List.countP_singleton,if_neg (by simpa using h),Nat.add_zero]
theorem zUN {l:List Bi} {b:Bi} (h:¬0 < b.f):zGu (l++[b])=zGu l+1:=by
 unfold zGu;rw [List.countP_append,List.countP_singleton,if_pos (by simpa using h)]
theorem zWu {l:List Bi} {b:Bi} (h:0 < b.f):zGu (l++[b])=zGu l:=by
 unfold zGu;rw [List.countP_append,List.countP_singleton,if_neg (by simp [h]),Nat.add_zero]
theorem zSi (k:Nat) (l:List Bi) {b:Bi} {f:Nat} (h0:0 < b.f) (e:b.f=(f:Int)):(zCG k l).set f ((zNk l (f:Int):Int)+1)=zCG k (l++[b]):=by
 apply List.ext_getElem?;intro i;rw [List.getElem?_set];by_cases hi:i < k+2
 ·rw [zGw k _ hi];by_cases hf:f=i
  ·subst hf;rw [if_pos rfl,zHk,if_pos hi,zGw k _ hi,zUM h0 e];rfl
  ·rw [if_neg hf,zGw k _ hi,zTv (fun h=>hf (by omega))]
 ·rw [List.getElem?_eq_none (by rw [zHk];omega),List.getElem?_eq_none (by rw [zHk];omega),zHk];split
  ·rename_i h1;rw [h1,if_neg hi]
  ·rfl
theorem zQm (k:Nat) (l:List Bi) {b:Bi} (h0:¬0 < b.f):zCG k (l++[b])=zCG k l:=by
 unfold zCG;exact List.map_congr_left fun f _=>by rw [zTv (fun h=>h0 h.1)]
def sgI (cr nu:Nat) (l:Lt):Int:=if (nu >>> (cr-l.id.toNat)) % 2=1 then 1 else -1
def sgL (cr nu:Nat) (l:Lt):Lt:=if isC l then { l with sign:=sgI cr nu l } else l
def zCS (cr nu:Nat) (L:List Lt):List Lt:=L.map (sgL cr nu)
def zUO (L:List Lt) (i:Nat):Int:=if (la L i).gate≤(la L (i+1)).gate then (la L (i+1)).gate else (la L i).gate
def lpC (L:List Lt) (g:Int) (m:Nat):Nat:=zAc (fun i=>(isP (la L i)&&dwn L i)&&zUO L i==g) m
def zBX (K:Nat) (L:List Lt) (m:Nat):List Int:=(List.range (K+2)).map fun g:Nat=>((lpC L (g:Int) m:Nat):Int)
theorem zFE (K:Nat) (L:List Lt) (m:Nat) {g:Nat} (h:g < K+2):(zBX K L m)[g]? = Z ((lpC L (g:Int) m:Nat):Int):=by
 unfold zBX;rw [List.getElem?_map,List.getElem?_range h];rfl
theorem zFF (K:Nat) (L:List Lt) (m:Nat):(zBX K L m).length=K+2:=by simp [zBX]
theorem zQn (L:List Lt) (g:Int) (m:Nat):lpC L g m≤m:=zBt _ _
theorem zQo (K:Nat) (L:List Lt) {m g:Nat} (h:(isP (la L m)&&dwn L m)=Q) (e:zUO L m=(g:Int)):(zBX K L m).set g ((lpC L (g:Int) m:Int)+1)=zBX K L (m+1):=by
 apply List.ext_getElem?;intro i;rw [List.getElem?_set];by_cases hi:i < K+2
 ·rw [zFE K L _ hi];by_cases hf:g=i
  ·subst hf;rw [if_pos rfl,zFF,if_pos hi,zFE K L _ hi,show lpC L (g:Int) (m+1)=lpC L (g:Int) m+1 from zAm (by rw [h,e];simp)];rfl
  ·rw [if_neg hf,zFE K L _ hi,show lpC L (i:Int) (m+1)=lpC L (i:Int) m from zAi (by rw [h,e];simp;omega)]
 ·rw [List.getElem?_eq_none (by rw [zFF];omega),List.getElem?_eq_none (by rw [zFF];omega),zFF];split
  ·rename_i h1;rw [h1,if_neg hi]
  ·rfl
theorem zIN (K:Nat) (L:List Lt) {m:Nat} (h:(isP (la L m)&&dwn L m)=E):zBX K L (m+1)=zBX K L m:=by
 unfold zBX;exact List.map_congr_left fun g _=>by rw [show lpC L (g:Int) (m+1)=lpC L (g:Int) m from zAi (by rw [h];rfl)]
theorem zOu (K:Nat) (L:List Lt):zBX K L 0=List.replicate (K+2) 0:=by
 unfold zBX;rw [List.eq_replicate_iff]
 exact ⟨by simp,fun b hb=>by
  obtain ⟨g,_,rfl⟩:=List.mem_map.1 hb
  simp [lpC,zAc]⟩
theorem zSj (k:Nat):zCG k []=List.replicate (k+2) 0:=by
 unfold zCG;rw [List.eq_replicate_iff]
 exact ⟨by simp,fun b hb=>by
  obtain ⟨g,_,rfl⟩:=List.mem_map.1 hb
  simp [zNk]⟩
def zBL (L:List Lt) (i:Nat):Lt:=if (la L (i+1)).gate < (la L i).gate then la L (i+1) else la L i
def zSk (L:List Lt) (i:Nat):UInt8:=if (la L (i+1)).gate < (la L i).gate then 60 else 62
def zUP (l:Lt):List UInt8:=Lib.itoa l.id++[if l.over then 111 else 117]
def zKP (F:List Fg) (L:List Lt) (i:Nat):List UInt8:=nmF F ((zBL L i).gate+1)++[46]++Lib.itoa ((zBL L i).rank-(lpC L (zBL L i).gate L.length:Int))++[zSk L i]
def zGx (F:List Fg) (L:List Lt) (i:Nat):List (List UInt8) :=
 if isC (la L i) then [zUP (la L i)] else if dwn L i then [zKP F L i] else []
def zDH (F:List Fg) (L:List Lt) (m:Nat):List (List UInt8):=(List.range m).flatMap (zGx F L)
theorem zDj (F:List Fg) (L:List Lt) (m:Nat):zDH F L (m+1)=zDH F L m++zGx F L m:=by simp [zDH,List.range_succ]
def zIq:List UInt8:=[98,97,114,101]
def zLo (F:List Fg) (L:List Lt):List UInt8:=if L.length=0 then zIq else Lib.join (zDH F L L.length) [32]
end Go.Proofs.YtlmdfmnbcndhoaaGreatDoor
