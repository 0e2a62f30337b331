/-
  Lemmas. Conditions: each one's own.
-/
import Derived.Test.YtlmdfmnbcndhoaaGreatDoorRt14
open Go.RowKit
set_option maxHeartbeats 12800000
set_option maxRecDepth 100000
open Bool renaming false->E,true->Q
open Option renaming none->U,some->Z
open Go renaming World->ZY
open Go.Value renaming bool->G,int->D,slice->H,string->W
open Go.Proofs.Tryz renaming prog->ZX
open Go.IntKind renaming i64->J
open Go.RowKit.Below renaming refl->M
open Nat renaming le_refl->O
open Go.RowKit renaming Below->ZZ
namespace Go.Proofs.YtlmdfmnbcndhoaaGreatDoor
def zKS (L:List Fg) (o:Og):Prop:=zAf L.length o=Q/\o.path.length<=10000
theorem zQk (ZP:List (Nst×Bool)):4*ZP.length<=(ZP.flatMap stT).length:=by
 induction ZP with
 | nil=>simp
 | cons x ZP ih =>
  have:4<=(stT x).length:=by simp [stT,plT];omega
  rw [List.flatMap_cons,List.length_append,List.length_cons];omega
theorem zMZ {n:Nop} (h:okN n):4*n.path.length<=(zJm n).length:=by
 by_cases hp:n.path=[]
 ·simp [hp]
 ·have hk:n.kind=3:=by
   rcases h.2 with ⟨_,_,h,_⟩ | ⟨_,_,h⟩ | ⟨h,_⟩ | ⟨_,_,h⟩ | ⟨_,_,h⟩
   ·exact absurd h hp
   ·exact absurd h hp
   ·exact h
   ·exact absurd h hp
   ·exact absurd h hp
  have:=zQk n.path;unfold zJm tlT;rw [qN (by omega),qP hk];simp only [List.length_cons,List.length_append];omega
theorem zSp {L:List Fg} {S:List UInt8} (h:zDt L S=0) (hS:S.length<=8000):zKS L (zEL L S):=by
 by_cases hx:∃n,okN n/\S=zBY n
 ·obtain ⟨n,h1,rfl⟩:=hx;obtain ⟨h2,h3⟩:=zEn L h1;rw [h2] at h;have hl:zAy L n=E:=by cases e:zAy L n<;>simp [e] at h ⊢
  rw [hl] at h3;rw [h3];refine ⟨(zXT h1 hl).1,?_⟩;show (n.path.map (pOf L)).length<=_;rw [List.length_map];have h4:=zMZ h1;have h5:=zEm (zBY n);rw [zDc] at h5;omega
 ·rw [(zIG L fun n h1 h2=>hx ⟨n,h1,h2⟩).1] at h;omega
theorem zIJ (L:List Fg):∀(ws:List (List UInt8)) (ZM:List Og),(∀p∈ws,p.length<=8000)->(∀o∈ZM,zKS L o)->∀o∈(zAO L ws ZM).1,zKS L o
 | [],ZM,_,hO=>hO
 | [p],ZM,_,hO=>by
  unfold zAO;split
  ·exact hO
  ·simp
 | p :: q :: r,ZM,hw,hO=>by
  unfold zAO;split
  ·rename_i h;refine zIJ L (q :: r) _ (fun x hx=>hw x (List.mem_cons_of_mem _ hx)) fun o ho=>?_
   rcases List.mem_append.1 ho with h1 | h1
   ·exact hO o h1
   ·rw [List.mem_singleton.1 h1];exact zSp h (hw p (List.mem_cons_self ..))
  ·simp
theorem zEO (L:List Fg):∀(ws:List (List UInt8)) (ZM:List Og),(zAO L ws ZM).1.length<=ZM.length+ws.length
 | [],ZM=>by unfold zAO;simp
 | [p],ZM=>by unfold zAO;split<;>simp
 | p :: q :: r,ZM=>by
  unfold zAO;split
  ·have:=zEO L (q :: r) (ZM++[zEL L p]);simp at this ⊢;omega
  ·simp
theorem zVf {L:List Fg} {re lo:Int} {S:List UInt8}:(∀o∈(rlR L re lo S).1,zKS L o)/\(rlR L re lo S).1.length<=8001:=by
 unfold rlR;by_cases h:zAC L re lo S=0
 ·rw [qP h];have hS:=(zBZ h).1;refine ⟨zIJ L _ [] (fun p hp=>Nat.le_trans (zAJ 10 S p hp) hS) (by simp),?_⟩;have h1:=zEO L (zAI 10 S) [];have h2:(zAI 10 S).length<=S.length+1:=by
   rw [zEk];have:=List.count_le_length (a:=(10:UInt8)) (l:=S);omega
  simp at h1;omega
 ·rw [qN h];simp
theorem zHI:∀{ws:List (List UInt8)} {ns:List Nop},zBA ws=Z ns->ns.length=ws.length/\∀n∈ns,∃p∈ws,zAD p=Z n
 | [],ns,h=>by
  simp [zBA] at h;subst h;simp
 | p :: ws,ns,h=>by
  rw [zBA] at h
  cases h1:zAD p with
  | none=>rw [h1] at h;simp at h
  | some n =>
   cases h2:zBA ws with
   | none=>rw [h1,h2] at h;simp at h
   | some ms =>
    rw [h1,h2] at h;simp only [Option.some.injEq] at h;subst h;obtain ⟨h3,h4⟩:=zHI h2;refine ⟨by simp [h3],fun m hm=>?_⟩;rcases List.mem_cons.1 hm with rfl | hm
    ·exact ⟨p,List.mem_cons_self ..,h1⟩
    ·obtain ⟨q,hq,he⟩:=h4 m hm;exact ⟨q,List.mem_cons_of_mem _ hq,he⟩
theorem zVg {L:List Fg} {re lo:Int} {S:List UInt8}:(∀o∈rsO L re lo S,zKS L o)/\(rsO L re lo S).length<=8001:=by
 unfold rsO;by_cases h:zAC L re lo S=0
 ·rw [qP h];have hS:=(zBZ h).1;unfold itO;by_cases h0:S=[]
  ·rw [qP h0];simp
  ·rw [qN h0]
   cases hs:zBA (zAI 32 S) with
   | none=>simp
   | some ns =>
    simp only;by_cases hl:ns.any (zAy L)=Q
    ·rw [qP hl];simp
    ·rw [qN hl];obtain ⟨h1,h2⟩:=zHI hs;refine ⟨fun o ho=>?_,?_⟩
     ·obtain ⟨n,hn,rfl⟩:=List.mem_map.1 ho;obtain ⟨p,hp,hpn⟩:=h2 n hn;have h3:=zCu hpn;have h4:zAy L n=E:=by
       cases e:zAy L n with
       | false=>rfl
       | true=>exact absurd (List.any_eq_true.2 ⟨n,hn,e⟩) hl
      refine ⟨(zXT h3.1 h4).1,?_⟩;show (n.path.map (pOf L)).length<=_;rw [List.length_map];have h5:=zGS h3.1;rw [<-h3.2.2] at h5;have h6:=zAJ 32 S p hp;omega
     ·rw [List.length_map,h1];have:=zBp S;omega
 ·rw [qN h];simp
theorem zFw {L:List Fg} {w:ZY} {base:Nat} {B:Option Addr} {m d:Nat} {Es:List Oe} (h:OpsOwn w base B m d Es) (hm:m<=1000000) {ZM:List Og} (hE:List.map (fun x:Oe=>x.o) Es=ZM) (hg:∀o∈ZM,zKS L o) (hl:ZM.length<=8001) :
  Oprs w B m Es/\m<=10000/\zWu Es/\(∀i,i < Es.length->zAf L.length (oa Es i).o=Q)/\ZM.all (zAf L.length)=Q:=by
 have hO:=h.oprs hm;have hlen:Es.length=m:=hO.len;have h1:Es.length=ZM.length:=by rw [<-hE,List.length_map]
 have hmem:∀e∈Es,zKS L e.o:=fun e he=>hg _ (by rw [<-hE];exact List.mem_map_of_mem he)
 refine ⟨hO,by omega,fun e he=>?_,fun i hi=>?_,?_⟩
 ·have h2:=(h.ok e he).2.1.len;have h3:=(hmem e he).2;omega
 ·exact (hmem _ (List.mem_of_getElem? (zBC hi))).1
 ·rw [List.all_eq_true];intro o ho;exact (hg o ho).1
theorem zOg (F:Fm) (S:List UInt8) (w:ZY) (hA:Fgs w F.A F.n F.L) (hc:F.n<=F.c) (ht:Tabs w) :
  Calls ZX 238 #[.agg #[],frV F.A F.n F.c F.re F.lo,W (bA S)] w (zDX w (rlR F.L F.re F.lo S).1 (rlR F.L F.re F.lo S).2.2):=by
 have ah:ZZ w.heap.size w ((w.alloc (.cells #[] 183)).alloc (.cells #[H F.A F.n F.c,D J F.re,D J F.lo] 24)):=((M _ _).alloc (O _) _).alloc (by simp) _;have HC:=qH (zHE F S _ (hA.below ah) hc (ht.below ah));have HB:=qH ah;clear hA ht ah;go_enter Tryz.func238,Tryz.ntmps238;go_wp2_with fail
 refine HC.out.mono ?_;rintro e Y ⟨B,m,d,Es,rfl,h1,h2,h3,h4⟩;have HF:=qH (show zDX w (rlR F.L F.re F.lo S).1 (rlR F.L F.re F.lo S).2.2 (.returned (.tuple #[H B m d,D J (rlR F.L F.re F.lo S).2.2])) Y from ⟨B,m,d,Es,rfl,h1,h2,h3.mono HB.out.size,zAa HB.out h4 HB.out.size⟩);clear h1 h2 h3 h4;go_wp2_with fail
 go_ret2;exact HF.out
theorem zOh (F:Fm) (S:List UInt8) (w:ZY) (hA:Fgs w F.A F.n F.L) (hc:F.n<=F.c) (ht:Tabs w) :
  Calls ZX 240 #[.agg #[],frV F.A F.n F.c F.re F.lo,W (bA S)] w (zDX w (rsO F.L F.re F.lo S) (rsE F.L F.re F.lo S)):=by
 have ah:ZZ w.heap.size w ((w.alloc (.cells #[] 184)).alloc (.cells #[H F.A F.n F.c,D J F.re,D J F.lo] 24)):=((M _ _).alloc (O _) _).alloc (by simp) _;have HC:=qH (zHH F S _ (hA.below ah) hc (ht.below ah));have HB:=qH ah;clear hA ht ah;go_enter Tryz.func240,Tryz.ntmps240;go_wp2_with fail
 refine HC.out.mono ?_;rintro e Y ⟨B,m,d,Es,rfl,h1,h2,h3,h4⟩;have HF:=qH (show zDX w (rsO F.L F.re F.lo S) (rsE F.L F.re F.lo S) (.returned (.tuple #[H B m d,D J (rsE F.L F.re F.lo S)])) Y from ⟨B,m,d,Es,rfl,h1,h2,h3.mono HB.out.size,zAa HB.out h4 HB.out.size⟩);clear h1 h2 h3 h4;go_wp2_with fail
 go_ret2;exact HF.out
theorem zHJ (F:Fm) (B:Option Addr) (m d:Nat) (Es:List Oe) (w:ZY) (hA:Fgs w F.A F.n F.L) (hc:F.n<=F.c) (ht:Tabs w) (hv:frB F.L F.re F.lo=Q) (hO:Oprs w B m Es) (hm:m<=10000) (hf:zWu Es) {ZM:List Og} (hE:List.map (fun x:Oe=>x.o) Es=ZM) (hr:ZM.all (zAf F.L.length)=Q) :
  Calls ZX 239 #[.agg #[],frV F.A F.n F.c F.re F.lo,H B m d] w fun e w'=>e=.returned (.tuple #[W (bA (zCf F.L ZM)),D J 0])/\ZZ w.heap.size w w':=by
 have ah:ZZ w.heap.size w ((w.alloc (.cells #[] 183)).alloc (.cells #[H F.A F.n F.c,D J F.re,D J F.lo] 24)):=((M _ _).alloc (O _) _).alloc (by simp) _;have h1:=zLC F.A F.n F.c F.L F.re F.lo B m d Es _ (hA.below ah) hc (hO.below ah) hm hf (ht.below ah);have h2:zAW F.L F.re F.lo (Es.map (·.o))=0:=by unfold zAW;rw [hE,hv,hr];rfl
 rw [h2,qP rfl,hE] at h1;have HC:=qH h1;have HB:=qH ah;clear hA ht ah h1 h2 hO;go_enter Tryz.func239,Tryz.ntmps239;go_wp2_with fail
 refine HC.out.mono ?_;rintro e Y ⟨rfl,h4⟩;have HF:=qH (zAa HB.out h4 HB.out.size);clear h4;go_wp2_with fail
 go_ret2;exact ⟨rfl,HF.out⟩
theorem zHK (F:Fm) (B:Option Addr) (m d:Nat) (Es:List Oe) (w:ZY) (hA:Fgs w F.A F.n F.L) (hc:F.n<=F.c) (hv:frB F.L F.re F.lo=Q) (hO:Oprs w B m Es) (hm:m<=10000) (hf:zWu Es) {ZM:List Og} (hE:List.map (fun x:Oe=>x.o) Es=ZM) (hr:ZM.all (zAf F.L.length)=Q) (hcn:ZM.all (zBN F.L)=Q) :
  Calls ZX 241 #[.agg #[],frV F.A F.n F.c F.re F.lo,H B m d] w fun e w'=>e=.returned (.tuple #[W (bA (zCV F.L ZM)),D J 0])/\ZZ w.heap.size w w':=by
 have ah:ZZ w.heap.size w ((w.alloc (.cells #[] 184)).alloc (.cells #[H F.A F.n F.c,D J F.re,D J F.lo] 24)):=((M _ _).alloc (O _) _).alloc (by simp) _;have h1:=zLE F.A F.n F.c F.L F.re F.lo B m d Es _ (hA.below ah) hc (hO.below ah) hm hf;have h2:zAW F.L F.re F.lo ZM=0:=by unfold zAW;rw [hv,hr];rfl
 have h3:zRu F.L F.re F.lo ZM=0:=by unfold zRu;rw [h2,qP rfl,hcn,qP rfl]
 have h5:zUC F.L F.re F.lo ZM=zCV F.L ZM:=by unfold zUC;rw [h3,qP rfl]
 rw [hE,h3,h5] at h1;have HC:=qH h1;have HB:=qH ah;clear hA ah h1 h2 h3 h5 hO;go_enter Tryz.func241,Tryz.ntmps241;go_wp2_with fail
 refine HC.out.mono ?_;rintro e Y ⟨rfl,h4⟩;have HF:=qH (zAa HB.out h4 HB.out.size);clear h4;go_wp2_with fail
 go_ret2;exact ⟨rfl,HF.out⟩
noncomputable def ntO (L:List Fg) (re lo:Int) (k:Int) (S:List UInt8):List Og:=if k=1 then (rlR L re lo S).1 else rsO L re lo S
noncomputable def ntE (L:List Fg) (re lo:Int) (k:Int) (S:List UInt8):Int:=if k=1 then (rlR L re lo S).2.2 else rsE L re lo S
def ntW (L:List Fg) (k:Int) (ZM:List Og):List UInt8:=if k=1 then zCf L ZM else zCV L ZM
noncomputable def trE (L:List Fg) (re lo:Int) (S:List UInt8) (from_ to_:Int):Int :=
 if frB L re lo=Q/\(from_=1∨from_=2)/\(to_=1∨to_=2) then
  if ntE L re lo from_ S=0 then (if to_=2/\(ntO L re lo from_ S).all (zBN L)=E then 8 else 0) else ntE L re lo from_ S
 else 2
noncomputable def trS (L:List Fg) (re lo:Int) (S:List UInt8) (from_ to_:Int):List UInt8:=if trE L re lo S from_ to_=0 then ntW L to_ (ntO L re lo from_ S) else []
theorem zQl {L:List Fg} {re lo k:Int} {S:List UInt8}:(∀o∈ntO L re lo k S,zKS L o)/\(ntO L re lo k S).length<=8001:=by
 unfold ntO;split
 ·exact zVf
 ·exact zVg
theorem zVh (F:Fm) (S:List UInt8) (k:Int) (hk:k=1∨k=2) (w:ZY) (hA:Fgs w F.A F.n F.L) (hc:F.n<=F.c) (ht:Tabs w) :
  Calls ZX (if k=1 then 238 else 240) #[.agg #[],frV F.A F.n F.c F.re F.lo,W (bA S)] w (zDX w (ntO F.L F.re F.lo k S) (ntE F.L F.re F.lo k S)):=by
 rcases hk with rfl | rfl
 ·exact zOg F S w hA hc ht
 ·exact zOh F S w hA hc ht
theorem zVi (w : ZY) : (method 365 183 (.agg #[]) "catscradle/notes.read").run ZX w = .ok (238, .agg #[]) w := by kernel_rfl
theorem zVj (w : ZY) : (method 365 184 (.agg #[]) "catscradle/notes.read").run ZX w = .ok (240, .agg #[]) w := by kernel_rfl
theorem zVk (w : ZY) : (method 365 183 (.agg #[]) "catscradle/notes.write").run ZX w = .ok (239, .agg #[]) w := by kernel_rfl
theorem zVl (w : ZY) : (method 365 184 (.agg #[]) "catscradle/notes.write").run ZX w = .ok (241, .agg #[]) w := by kernel_rfl
theorem zDY (F:Fm) (S:List UInt8) (p q:Int) (w:ZY) (hA:Fgs w F.A F.n F.L) (hc:F.n<=F.c) (ht:Tabs w) :
  Calls ZX 40 #[frV F.A F.n F.c F.re F.lo,W (bA S),D J p,D J q] w fun e w'=>e=.returned (.tuple #[W (bA (trS F.L F.re F.lo S p q)),D J (trE F.L F.re F.lo S p q)])/\ZZ w.heap.size w w':=by
 have ah:ZZ w.heap.size w (w.alloc (.cells #[H F.A F.n F.c,D J F.re,D J F.lo] 24)):=(M _ _).alloc (O _) _;have hk0:Blk (w.alloc (.cells #[H F.A F.n F.c,D J F.re,D J F.lo] 24)) w.heap.size 24 #[H F.A F.n F.c,D J F.re,D J F.lo]:=Blk.new _ _ _;obtain ⟨b,hb⟩:∃b,frB F.L F.re F.lo=b:=⟨_,rfl⟩
 obtain ⟨ZQ,hE⟩:∃x,trE F.L F.re F.lo S p q=x:=⟨_,rfl⟩
 obtain ⟨T,hT⟩:∃x,trS F.L F.re F.lo S p q=x:=⟨_,rfl⟩
 rw [hE,hT];have HE:=qH hE;have cQ:=qH hT;have HB:=qH hb;have HA:=qH hA;have HT:=qH ht;have HV:=qH (zFc hb F.A F.n F.c _ (hA.below ah) hc);have G8:=qH (fun k wx=>zKR k wx)
 have vY:=qH (fun (h:¬(frB F.L F.re F.lo=Q/\(p=1∨p=2)/\(q=1∨q=2)))=>(show ZQ=2/\T=[] by
  have h1:ZQ=2:=by rw [<-hE];unfold trE;rw [qN h]
  refine ⟨h1,?_⟩
  rw [<-hT];unfold trS;rw [hE,h1];rfl))
 clear hE hT hb hA ht;go_enter Tryz.func40,Tryz.ntmps40;go_wp2_with fail
 generalize w.alloc (.cells #[H F.A F.n F.c,D J F.re,D J F.lo] 24)=Y at ah hk0 HV ⊢;refine HV.out.mono ?_;rintro e Y2 ⟨rfl,ai⟩;have bt:=hk0.below ai hk0.lt;have al:=zAa ah ai ah.size;clear hk0 ah ai HV
 cases b with
 | false =>
  have HF:=qH (vY.out (fun h=>by rw [HB.out] at h;cases h.1));clear vY bt;go_wp2_with fail
  go_ret2;exact ⟨by rw [HF.out.1,HF.out.2];rfl,al⟩
 | true =>
  go_wp2_with fail
  refine (G8.out p _).mono ?_;rintro e Y3 ⟨rfl,rfl⟩;go_wp2_with fail
  refine (G8.out q _).mono ?_;rintro e Y4 ⟨rfl,rfl⟩;by_cases hp:p=1∨p=2
  ·by_cases hq:q=1∨q=2
   ·have v0:Y4.cell? ⟨w.heap.size,0,U⟩=Z (H F.A F.n F.c):=(bt.cell 0).trans rfl;obtain ⟨-,v1,v2⟩:=cQ3 bt;have CM:=zQl (L:=F.L) (re:=F.re) (lo:=F.lo) (k:=p) (S:=S);have CE:=zVh F S p hp Y4 (HA.out.below al) hc (HT.out.below al);have vg:ZQ=if ntE F.L F.re F.lo p S=0 then (if q=2/\(ntO F.L F.re F.lo p S).all (zBN F.L)=E then 8 else 0) else ntE F.L F.re F.lo p S:=by rw [<-HE.out];unfold trE;rw [qP ⟨HB.out,hp,hq⟩]
    have wD:T=if ZQ=0 then ntW F.L q (ntO F.L F.re F.lo p S) else []:=by rw [<-cQ.out];unfold trS;rw [HE.out]
    obtain ⟨ZM,CH⟩:∃x,ntO F.L F.re F.lo p S=x:=⟨_,rfl⟩
    obtain ⟨er,her⟩:∃x,ntE F.L F.re F.lo p S=x:=⟨_,rfl⟩
    rw [CH,her] at CE vg;rw [CH] at wD CM;have tX:=qH CM;have oo:=qH CE;have qc:=qH vg;have lw:=qH wD;have mwr:=zVi;have msr:=zVj;have mww:=zVk;have msw:=zVl;clear vY CM CE vg wD CH her;rcases hp with rfl | rfl
    ·rcases hq with rfl | rfl
     ·skip;rw [qP rfl] at oo;rw [show zKb 1=.iface 183 (.agg #[]) from rfl];go_wp2_with fail
      refine oo.out.mono ?_;rintro e Y5 ⟨B,m,d,Es,rfl,fU,hm,hO,az⟩;have pM:=qH fU;have aM:=zAa al az al.size;have fX:=bt.below az bt.lt;obtain ⟨u0,u1,u2⟩:=cQ3 fX;by_cases h0:er=0
      ·subst h0;obtain ⟨iO,cE,hfi,hri,hal⟩:=zFw hO hm fU tX.out.1 tX.out.2;have hnl:F.n=F.L.length:=HA.out.len.symm;have jX:=qH (zFv F.A F.n F.c F.L F.re F.lo 1 (by omega) B m d Es Y5 (HA.out.below aM) iO (by rw [hnl];exact hri));obtain ⟨av,hav⟩:∃x,zTP F.L 1 Es=x:=⟨_,rfl⟩
       rw [hav] at jX;have lx:=qH (qc.out.trans (qP rfl));have HK:=qH (And.intro iO (And.intro cE (And.intro hfi hal)));have rk:=qH hav;clear hO hm fU iO cE hfi hri hal hav hnl oo v0 v1 v2;go_wp2_with fail
       refine jX.out.mono ?_;rintro e Y6 ⟨rfl,cV⟩;have cz:=zAa aM cV aM.size;have mW:=fX.below cV fX.lt;obtain ⟨t0,t1,t2⟩:=cQ3 mW;clear u0 u1 u2
       cases av with
       | true =>
        have fm:Hid (ZQ=0):=qH (by rw [lx.out,qN (by omega)]);have vH:=qH (zHJ F B m d Es Y6 (HA.out.below cz) hc (HT.out.below cz) HB.out (HK.out.1.below cV) HK.out.2.1 HK.out.2.2.1 pM.out HK.out.2.2.2);have gP:=qH (show T=zCf F.L ZM by rw [lw.out,fm.out];rfl);go_wp2_with fail
        refine vH.out.mono ?_;rintro e Y7 ⟨rfl,bn⟩;have co:=zAa cz bn cz.size;clear t0 t1 t2;go_wp2_with fail
        go_ret2;exact ⟨by rw [fm.out,gP.out];rfl,co⟩
       | false =>
        exact absurd rk.out (by rw [show zTP F.L 1 Es=Q from rfl];simp)
      ·have fm:Hid (ZQ=er):=qH (by rw [qc.out,qN h0]);have gP:Hid (T=[]):=qH (by rw [lw.out,fm.out,qN h0]);have k0:(er != 0)=Q:=by simpa using h0
       clear h0 hO hm fU u0 u1 u2 v0 v1 v2;go_wp2_with fail
       go_ret2;exact ⟨by rw [fm.out,gP.out];rfl,aM⟩
     ·skip;rw [qP rfl] at oo;rw [show zKb 1=.iface 183 (.agg #[]) from rfl,show zKb 2=.iface 184 (.agg #[]) from rfl];go_wp2_with fail
      refine oo.out.mono ?_;rintro e Y5 ⟨B,m,d,Es,rfl,fU,hm,hO,az⟩;have pM:=qH fU;have aM:=zAa al az al.size;have fX:=bt.below az bt.lt;obtain ⟨u0,u1,u2⟩:=cQ3 fX;by_cases h0:er=0
      ·subst h0;obtain ⟨iO,cE,hfi,hri,hal⟩:=zFw hO hm fU tX.out.1 tX.out.2;have hnl:F.n=F.L.length:=HA.out.len.symm;have jX:=qH (zFv F.A F.n F.c F.L F.re F.lo 2 (by omega) B m d Es Y5 (HA.out.below aM) iO (by rw [hnl];exact hri));obtain ⟨av,hav⟩:∃x,zTP F.L 2 Es=x:=⟨_,rfl⟩
       rw [hav] at jX;have lx:=qH (qc.out.trans (qP rfl));have HK:=qH (And.intro iO (And.intro cE (And.intro hfi hal)));have rk:=qH hav;clear hO hm fU iO cE hfi hri hal hav hnl oo v0 v1 v2;go_wp2_with fail
       refine jX.out.mono ?_;rintro e Y6 ⟨rfl,cV⟩;have cz:=zAa aM cV aM.size;have mW:=fX.below cV fX.lt;obtain ⟨t0,t1,t2⟩:=cQ3 mW;clear u0 u1 u2
       cases av with
       | true =>
        have hcn:ZM.all (zBN F.L)=Q:=by rw [<-pM.out,List.all_map];exact rk.out
        have fm:Hid (ZQ=0):=qH (by rw [lx.out,qN (by rw [hcn];simp)]);have vH:=qH (zHK F B m d Es Y6 (HA.out.below cz) hc HB.out (HK.out.1.below cV) HK.out.2.1 HK.out.2.2.1 pM.out HK.out.2.2.2 hcn);have gP:=qH (show T=zCV F.L ZM by rw [lw.out,fm.out];rfl);clear hcn;go_wp2_with fail
        refine vH.out.mono ?_;rintro e Y7 ⟨rfl,bn⟩;have co:=zAa cz bn cz.size;clear t0 t1 t2;go_wp2_with fail
        go_ret2;exact ⟨by rw [fm.out,gP.out];rfl,co⟩
       | false =>
        have hcn:ZM.all (zBN F.L)=E:=by rw [<-pM.out,List.all_map];exact rk.out
        have fm:Hid (ZQ=8):=qH (by rw [lx.out,qP (by first | exact ⟨rfl,hcn⟩ | exact ⟨trivial,hcn⟩)]);have gP:=qH (show T=[] by rw [lw.out,fm.out];rfl);clear hcn;go_wp2_with fail
        go_ret2;exact ⟨by rw [fm.out,gP.out];rfl,cz⟩
      ·have fm:Hid (ZQ=er):=qH (by rw [qc.out,qN h0]);have gP:Hid (T=[]):=qH (by rw [lw.out,fm.out,qN h0]);have k0:(er != 0)=Q:=by simpa using h0
       clear h0 hO hm fU u0 u1 u2 v0 v1 v2;go_wp2_with fail
       go_ret2;exact ⟨by rw [fm.out,gP.out];rfl,aM⟩
    ·rcases hq with rfl | rfl
     ·skip;rw [qN (by omega)] at oo;rw [show zKb 2=.iface 184 (.agg #[]) from rfl,show zKb 1=.iface 183 (.agg #[]) from rfl];go_wp2_with fail
      refine oo.out.mono ?_;rintro e Y5 ⟨B,m,d,Es,rfl,fU,hm,hO,az⟩;have pM:=qH fU;have aM:=zAa al az al.size;have fX:=bt.below az bt.lt;obtain ⟨u0,u1,u2⟩:=cQ3 fX;by_cases h0:er=0
      ·subst h0;obtain ⟨iO,cE,hfi,hri,hal⟩:=zFw hO hm fU tX.out.1 tX.out.2;have hnl:F.n=F.L.length:=HA.out.len.symm;have jX:=qH (zFv F.A F.n F.c F.L F.re F.lo 1 (by omega) B m d Es Y5 (HA.out.below aM) iO (by rw [hnl];exact hri));obtain ⟨av,hav⟩:∃x,zTP F.L 1 Es=x:=⟨_,rfl⟩
       rw [hav] at jX;have lx:=qH (qc.out.trans (qP rfl));have HK:=qH (And.intro iO (And.intro cE (And.intro hfi hal)));have rk:=qH hav;clear hO hm fU iO cE hfi hri hal hav hnl oo v0 v1 v2;go_wp2_with fail
       refine jX.out.mono ?_;rintro e Y6 ⟨rfl,cV⟩;have cz:=zAa aM cV aM.size;have mW:=fX.below cV fX.lt;obtain ⟨t0,t1,t2⟩:=cQ3 mW;clear u0 u1 u2
       cases av with
       | true =>
        have fm:Hid (ZQ=0):=qH (by rw [lx.out,qN (by omega)]);have vH:=qH (zHJ F B m d Es Y6 (HA.out.below cz) hc (HT.out.below cz) HB.out (HK.out.1.below cV) HK.out.2.1 HK.out.2.2.1 pM.out HK.out.2.2.2);have gP:=qH (show T=zCf F.L ZM by rw [lw.out,fm.out];rfl);go_wp2_with fail
        refine vH.out.mono ?_;rintro e Y7 ⟨rfl,bn⟩;have co:=zAa cz bn cz.size;clear t0 t1 t2;go_wp2_with fail
        go_ret2;exact ⟨by rw [fm.out,gP.out];rfl,co⟩
       | false =>
        exact absurd rk.out (by rw [show zTP F.L 1 Es=Q from rfl];simp)
      ·have fm:Hid (ZQ=er):=qH (by rw [qc.out,qN h0]);have gP:Hid (T=[]):=qH (by rw [lw.out,fm.out,qN h0]);have k0:(er != 0)=Q:=by simpa using h0
       clear h0 hO hm fU u0 u1 u2 v0 v1 v2;go_wp2_with fail
       go_ret2;exact ⟨by rw [fm.out,gP.out];rfl,aM⟩
     ·skip;rw [qN (by omega)] at oo;rw [show zKb 2=.iface 184 (.agg #[]) from rfl];go_wp2_with fail
      refine oo.out.mono ?_;rintro e Y5 ⟨B,m,d,Es,rfl,fU,hm,hO,az⟩;have pM:=qH fU;have aM:=zAa al az al.size;have fX:=bt.below az bt.lt;obtain ⟨u0,u1,u2⟩:=cQ3 fX;by_cases h0:er=0
      ·subst h0;obtain ⟨iO,cE,hfi,hri,hal⟩:=zFw hO hm fU tX.out.1 tX.out.2;have hnl:F.n=F.L.length:=HA.out.len.symm;have jX:=qH (zFv F.A F.n F.c F.L F.re F.lo 2 (by omega) B m d Es Y5 (HA.out.below aM) iO (by rw [hnl];exact hri));obtain ⟨av,hav⟩:∃x,zTP F.L 2 Es=x:=⟨_,rfl⟩
       rw [hav] at jX;have lx:=qH (qc.out.trans (qP rfl));have HK:=qH (And.intro iO (And.intro cE (And.intro hfi hal)));have rk:=qH hav;clear hO hm fU iO cE hfi hri hal hav hnl oo v0 v1 v2;go_wp2_with fail
       refine jX.out.mono ?_;rintro e Y6 ⟨rfl,cV⟩;have cz:=zAa aM cV aM.size;have mW:=fX.below cV fX.lt;obtain ⟨t0,t1,t2⟩:=cQ3 mW;clear u0 u1 u2
       cases av with
       | true =>
        have hcn:ZM.all (zBN F.L)=Q:=by rw [<-pM.out,List.all_map];exact rk.out
        have fm:Hid (ZQ=0):=qH (by rw [lx.out,qN (by rw [hcn];simp)]);have vH:=qH (zHK F B m d Es Y6 (HA.out.below cz) hc HB.out (HK.out.1.below cV) HK.out.2.1 HK.out.2.2.1 pM.out HK.out.2.2.2 hcn);have gP:=qH (show T=zCV F.L ZM by rw [lw.out,fm.out];rfl);clear hcn;go_wp2_with fail
        refine vH.out.mono ?_;rintro e Y7 ⟨rfl,bn⟩;have co:=zAa cz bn cz.size;clear t0 t1 t2;go_wp2_with fail
        go_ret2;exact ⟨by rw [fm.out,gP.out];rfl,co⟩
       | false =>
        have hcn:ZM.all (zBN F.L)=E:=by rw [<-pM.out,List.all_map];exact rk.out
        have fm:Hid (ZQ=8):=qH (by rw [lx.out,qP (by first | exact ⟨rfl,hcn⟩ | exact ⟨trivial,hcn⟩)]);have gP:=qH (show T=[] by rw [lw.out,fm.out];rfl);clear hcn;go_wp2_with fail
        go_ret2;exact ⟨by rw [fm.out,gP.out];rfl,cz⟩
      ·have fm:Hid (ZQ=er):=qH (by rw [qc.out,qN h0]);have gP:Hid (T=[]):=qH (by rw [lw.out,fm.out,qN h0]);have k0:(er != 0)=Q:=by simpa using h0
       clear h0 hO hm fU u0 u1 u2 v0 v1 v2;go_wp2_with fail
       go_ret2;exact ⟨by rw [fm.out,gP.out];rfl,aM⟩
   ·have HF:=qH (vY.out (fun h=>hq h.2.2));have hqn:zKb q=.nilIface:=by unfold zKb;rw [qN (fun e=>hq (.inl e)),qN (fun e=>hq (.inr e))]
    rw [hqn];clear hq hqn vY bt;rcases hp with rfl | rfl
    ·rw [show zKb 1=.iface 183 (.agg #[]) from rfl];go_wp2_with fail
     go_ret2;exact ⟨by rw [HF.out.1,HF.out.2];rfl,al⟩
    ·rw [show zKb 2=.iface 184 (.agg #[]) from rfl];go_wp2_with fail
     go_ret2;exact ⟨by rw [HF.out.1,HF.out.2];rfl,al⟩
  ·have HF:=qH (vY.out (fun h=>hp h.2.1));have hpn:zKb p=.nilIface:=by unfold zKb;rw [qN (fun e=>hp (.inl e)),qN (fun e=>hp (.inr e))]
   rw [hpn];clear hp hpn vY bt;go_wp2_with fail
   go_ret2;exact ⟨by rw [HF.out.1,HF.out.2];rfl,al⟩
def Dia (w:ZY) (p:Nat) (K:Int) (A:Option Addr) (n c:Nat) (v2 v3 v4 v5 v6:Value):Prop:=Blk w p 148 #[D J K,H A n c,v2,v3,v4,v5,v6]
section
variable {w w':ZY} {p:Nat} {K:Int} {A:Option Addr} {n c:Nat} {v2 v3 v4 v5 v6:Value}
theorem Dia.c0 (h:Dia w p K A n c v2 v3 v4 v5 v6):w.cell? ⟨p,0,U⟩=Z (D J K):=by rw [Blk.cell h];rfl
theorem Dia.c1 (h:Dia w p K A n c v2 v3 v4 v5 v6):w.cell? ⟨p,1,U⟩=Z (H A n c):=by rw [Blk.cell h];rfl
theorem Dia.c2 (h:Dia w p K A n c v2 v3 v4 v5 v6):w.cell? ⟨p,2,U⟩=Z v2:=by rw [Blk.cell h];rfl
theorem Dia.c3 (h:Dia w p K A n c v2 v3 v4 v5 v6):w.cell? ⟨p,3,U⟩=Z v3:=by rw [Blk.cell h];rfl
theorem Dia.c4 (h:Dia w p K A n c v2 v3 v4 v5 v6):w.cell? ⟨p,4,U⟩=Z v4:=by rw [Blk.cell h];rfl
theorem Dia.c5 (h:Dia w p K A n c v2 v3 v4 v5 v6):w.cell? ⟨p,5,U⟩=Z v5:=by rw [Blk.cell h];rfl
theorem Dia.c6 (h:Dia w p K A n c v2 v3 v4 v5 v6):w.cell? ⟨p,6,U⟩=Z v6:=by rw [Blk.cell h];rfl
theorem Dia.lt (h:Dia w p K A n c v2 v3 v4 v5 v6):p < w.heap.size:=Blk.lt h
theorem Dia.below {B:Nat} (h:Dia w p K A n c v2 v3 v4 v5 v6) (hb:ZZ B w w') (hB:p < B):Dia w' p K A n c v2 v3 v4 v5 v6:=Blk.below h hb hB
theorem Dia.next (h:Dia w p K A n c v2 v3 v4 v5 v6) (hb:ZZ w.heap.size w w'):Dia w' p K A n c v2 v3 v4 v5 v6:=Blk.below h hb h.lt
theorem Dia.frozen (h:Dia w p K A n c v2 v3 v4 v5 v6) (i:Nat):w.frozen? ⟨p,i,U⟩=E:=Blk.frozen h i
end
theorem zGv (l:Lt) (b p:Nat) (K:Int) (w:ZY) (hb:w.cell? ⟨b,0,U⟩=Z (.pointer (Z ⟨p,0,U⟩))) (hp:w.cell? ⟨p,0,U⟩=Z (D J K)) :
  Calls ZX 198 #[ltV l,.pointer (Z ⟨b,0,U⟩)] w fun e w'=>e=.returned (G (!lpB K l))/\ZZ w.heap.size w w':=by
 have hbb:=(M w.heap.size w).alloc (O _) (.cells #[D J l.kind,D J l.gate,D J l.rank,D J l.id,D J l.sign,G l.over] 76);have hblt:=World.block_lt_of_cell? w _ hb;have hplt:=World.block_lt_of_cell? w _ hp;have pe:=(hbb.cell (p:=⟨b,0,U⟩) hblt).trans hb;have pW:=(hbb.cell (p:=⟨p,0,U⟩) hplt).trans hp;unfold ltV
 cases k1:(l.kind==1) with
 | true =>
  cases q1:decide (l.gate < 0) with
  | true =>
   have Ar:l.gate < 0:=by simpa using q1
   have hf:=qH (show (!lpB K l)=Q by unfold lpB;rw [qP (show l.kind=1 by simpa using k1)];simp at q1;simp;omega);go_enter Tryz.func198,Tryz.ntmps198;go_wp2_with fail
   go_quiet (fail)
   go_wp2_with fail
   go_ret;exact ⟨zAm hf.out.symm,zAg ((M _ _).alloc (O _) _) _⟩
  | false =>
   cases q2:decide (K < l.gate) with
   | true =>
    have Aq:K < l.gate:=by simpa using q2
    have hf:=qH (show (!lpB K l)=Q by unfold lpB;rw [qP (show l.kind=1 by simpa using k1)];simp at q2;simp;omega);go_enter Tryz.func198,Tryz.ntmps198;go_wp2_with fail
    go_quiet (fail)
    go_wp2_with fail
    go_ret;exact ⟨zAm hf.out.symm,zAg ((M _ _).alloc (O _) _) _⟩
   | false =>
    cases q3:(l.id != 0) with
    | true =>
     have hf:=qH (show (!lpB K l)=Q by unfold lpB;rw [qP (show l.kind=1 by simpa using k1)];simp at q3;simp;omega);go_enter Tryz.func198,Tryz.ntmps198;go_wp2_with fail
     go_quiet (fail)
     go_wp2_with fail
     go_ret;exact ⟨zAm hf.out.symm,zAg ((M _ _).alloc (O _) _) _⟩
    | false =>
     cases q4:(l.sign != 0) with
     | true =>
      have hf:=qH (show (!lpB K l)=Q by unfold lpB;rw [qP (show l.kind=1 by simpa using k1)];simp at q4;simp;omega);go_enter Tryz.func198,Tryz.ntmps198;go_wp2_with fail
      go_quiet (fail)
      go_wp2_with fail
      go_ret;exact ⟨zAm hf.out.symm,zAg ((M _ _).alloc (O _) _) _⟩
     | false =>
      cases q5:l.over with
      | true =>
       have hf:=qH (show (!lpB K l)=Q by unfold lpB;rw [qP (show l.kind=1 by simpa using k1)];simp [q5]);go_enter Tryz.func198,Tryz.ntmps198;go_wp2_with fail
       go_quiet (fail)
       go_wp2_with fail
       go_ret;exact ⟨zAm hf.out.symm,zAg ((M _ _).alloc (O _) _) _⟩
      | false =>
       have hf:=qH (show (!lpB K l)=E by unfold lpB;rw [qP (show l.kind=1 by simpa using k1)];simp at q1 q2 q3 q4;simp;exact ⟨by omega,by omega,by omega,by omega,q5⟩);go_enter Tryz.func198,Tryz.ntmps198;go_wp2_with fail
       go_quiet (fail)
       go_wp2_with fail
       go_ret;exact ⟨zAm hf.out.symm,zAg ((M _ _).alloc (O _) _) _⟩
 | false =>
  cases k2:(l.kind==2) with
  | true =>
   cases q1:(l.gate != 0) with
   | true =>
    have hf:=qH (show (!lpB K l)=Q by unfold lpB;rw [qN (show ¬l.kind=1 by simpa using k1),qP (show l.kind=2 by simpa using k2)];simp at q1;simp;omega);go_enter Tryz.func198,Tryz.ntmps198;go_wp2_with fail
    go_ret;exact ⟨zAm hf.out.symm,(M _ _).alloc (O _) _⟩
   | false =>
    cases q2:(l.rank != 0) with
    | true =>
     have hf:=qH (show (!lpB K l)=Q by unfold lpB;rw [qN (show ¬l.kind=1 by simpa using k1),qP (show l.kind=2 by simpa using k2)];simp at q2;simp;omega);go_enter Tryz.func198,Tryz.ntmps198;go_wp2_with fail
     go_ret;exact ⟨zAm hf.out.symm,(M _ _).alloc (O _) _⟩
    | false =>
     cases q3:(l.sign != 1) with
     | false =>
      have xz:l.sign=1∨l.sign = -1:=by simp at q3;exact .inl q3
      have Q3:=qH xz;clear xz
      have hf:=qH (show (!lpB K l)=E by unfold lpB;rw [qN (show ¬l.kind=1 by simpa using k1),qP (show l.kind=2 by simpa using k2)];have ZP:=Q3.out;simp at q1 q2;simp;omega);go_enter Tryz.func198,Tryz.ntmps198;go_wp2_with fail
      go_ret;exact ⟨zAm hf.out.symm,(M _ _).alloc (O _) _⟩
     | true =>
      cases q4:(l.sign != -1) with
      | false =>
       have xz:l.sign=1∨l.sign = -1:=by simp at q4;exact .inr q4
       have Q3:=qH xz;clear xz
       have hf:=qH (show (!lpB K l)=E by unfold lpB;rw [qN (show ¬l.kind=1 by simpa using k1),qP (show l.kind=2 by simpa using k2)];have ZP:=Q3.out;simp at q1 q2;simp;omega);go_enter Tryz.func198,Tryz.ntmps198;go_wp2_with fail
       go_ret;exact ⟨zAm hf.out.symm,(M _ _).alloc (O _) _⟩
      | true =>
       have hf:=qH (show (!lpB K l)=Q by unfold lpB;rw [qN (show ¬l.kind=1 by simpa using k1),qP (show l.kind=2 by simpa using k2)];simp at q3 q4;simp;omega);go_enter Tryz.func198,Tryz.ntmps198;go_wp2_with fail
       go_ret;exact ⟨zAm hf.out.symm,(M _ _).alloc (O _) _⟩
  | false =>
   have hf:=qH (show (!lpB K l)=Q by unfold lpB;rw [qN (show ¬l.kind=1 by simpa using k1),qN (show ¬l.kind=2 by simpa using k2)];rfl);go_enter Tryz.func198,Tryz.ntmps198;go_wp2_with fail
   go_ret;exact ⟨zAm hf.out.symm,(M _ _).alloc (O _) _⟩
def zIc (K:Int) (L:List Lt) (i:Nat):Bool:=!lpB K (la L i)
theorem zGd (b p:Nat) (K:Int) (A:Option Addr) (n c:Nat) (L:List Lt) (w:ZY) (hA:Lets w A n L) (hb:w.cell? ⟨b,0,U⟩=Z (.pointer (Z ⟨p,0,U⟩))) (hp:w.cell? ⟨p,0,U⟩=Z (D J K)) :
  Calls ZX 211 #[H A n c,.func (.func 198) #[] #[.pointer (Z ⟨b,0,U⟩)]] w fun e w'=>e=.returned (D J (zGn (zIc K L) n))/\ZZ w.heap.size w w':=by
 have hle:=hA.le;have hblt:=World.block_lt_of_cell? w _ hb;have hplt:=World.block_lt_of_cell? w _ hp;go_enter Tryz.func211,Tryz.ntmps211;go_wp2_with fail
 go_loopw [8] (fun i wr=>∃k:Nat,k<=n/\i=D J k/\ZZ w.heap.size w wr/\Hid (NoneTo (zIc K L) k)) (fun i _=>n-(intOf i).toNat)
 case atStart=>exact ⟨0,Nat.zero_le _,rfl,M _ _,NoneTo.zero _⟩
 case round =>
  obtain ⟨k,hk,rfl,hbw,hno⟩:=hrel;by_cases hlt:k < n
  ·obtain ⟨g,o,rfl,hg,hx,hok⟩:=(hA.below hbw).at_ hlt;obtain ⟨h0,h1,h2,h3,h4,h5⟩:=hx;have hbr:=(hbw.cell (p:=⟨b,0,U⟩) hblt).trans hb;have hpr:=(hbw.cell (p:=⟨p,0,U⟩) hplt).trans hp
   cases hq:lpB K (la L k) with
   | true =>
    have hs:=qH (hno.out.succ (show zIc K L k=E by unfold zIc;rw [hq];rfl));have HQ:=qH hq;clear hno hq;go_wp2_with fail
    refine (zGv (la L k) b p K _ hbr hpr).mono ?_;rintro e w1 ⟨rfl,ay⟩;rw [HQ.out];have uR:=zAa hbw ay hbw.size;go_wp2_with fail
    go_roundw
    case rel=>exact ⟨k+1,by omega,by go_num,uR,hs⟩
    case measure=>simp [intOf];omega
   | false =>
    have hf:=qH (zFM (n:=n) hno.out (show zIc K L k=Q by unfold zIc;rw [hq];rfl) hlt);have HQ:=qH hq;clear hno hq;go_wp2_with fail
    refine (zGv (la L k) b p K _ hbr hpr).mono ?_;rintro e w1 ⟨rfl,ay⟩;rw [HQ.out];have uR:=zAa hbw ay hbw.size;go_wp2_with fail
    go_ret;exact ⟨zCv hf.out.symm,uR⟩
  ·have hkn:k=n:=by omega
   subst hkn;go_wp2_with fail
   go_ret;exact ⟨zCv (zEB hno.out).symm,hbw⟩
theorem zEx (b p:Nat) (K:Int) (A:Option Addr) (n c:Nat) (L:List Lt) (w:ZY) (hA:Lets w A n L) (hb:w.cell? ⟨b,0,U⟩=Z (.pointer (Z ⟨p,0,U⟩))) (hp:w.cell? ⟨p,0,U⟩=Z (D J K)) :
  Calls ZX 197 #[H A n c,.func (.func 198) #[] #[.pointer (Z ⟨b,0,U⟩)]] w fun e w'=>e=.returned (G (!zAE K L))/\ZZ w.heap.size w w':=by
 have HL:=qH hA.len
 have hf:=qH (show decide (0<=zGn (zIc K L) n) = !zAE K L by
  unfold zAE
  rw [HL.out]
  rcases zKf (zIc K L) n with ⟨h,h'⟩ | ⟨k,hk,h,_,hp⟩
  ·rw [h,zAL.2 (fun i hi=>by have:=h' i hi;unfold zIc at this;simpa using this)];rfl
  ·rw [h,zEX hk (by unfold zIc at hp;simpa using hp)];simp)
 go_enter Tryz.func197,Tryz.ntmps197;go_wp2_with fail
 refine (zGd b p K A n c L _ hA hb hp).mono ?_;rintro e w1 ⟨rfl,ay⟩;go_wp2_with fail
 go_ret;exact ⟨zAm hf.out,ay⟩
theorem zDw {x:Bool} (b p:Nat) (K:Int) (A:Option Addr) (n c:Nat) (L:List Lt) (w:ZY) (hx:zAE K L=x) (hA:Lets w A n L) (hb:w.cell? ⟨b,0,U⟩=Z (.pointer (Z ⟨p,0,U⟩))) (hp:w.cell? ⟨p,0,U⟩=Z (D J K)) :
  Calls ZX 197 #[H A n c,.func (.func 198) #[] #[.pointer (Z ⟨b,0,U⟩)]] w fun e w'=>e=.returned (G (!x))/\ZZ w.heap.size w w':=by
 subst hx;exact zEx b p K A n c L w hA hb hp
theorem zHL (p:Nat) (K:Int) (A:Option Addr) (n c:Nat) (L:List Lt) (v2 v3 v4 v5 v6:Value) (w:ZY) (hA:Lets w A n L) (hd:Dia w p K A n c v2 v3 v4 v5 v6) :
  Calls ZX 175 #[.pointer (Z ⟨p,0,U⟩)] w fun e w'=>e=.returned (G (zAE K L))/\ZZ w.heap.size w w':=by
 have hbb:=(M w.heap.size w).alloc (O _) (.cells #[.pointer (Z ⟨p,0,U⟩)] 143);have hc0:=(hbb.cell (p:=⟨p,0,U⟩) hd.lt).trans hd.c0;have o9:=(hbb.cell (p:=⟨p,1,U⟩) hd.lt).trans hd.c1;have hbx:(w.alloc (.cells #[.pointer (Z ⟨p,0,U⟩)] 143)).cell? ⟨w.heap.size,0,U⟩=Z (.pointer (Z ⟨p,0,U⟩)):=by rw [World.cell?_alloc_at _ _ _ _ rfl];rfl
 obtain ⟨x,hx⟩:∃x,zAE K L=x:=⟨_,rfl⟩
 have HX:=qH hx;rw [hx];clear hx;go_enter Tryz.func175,Tryz.ntmps175;go_wp2_with fail
 refine (zDw w.heap.size p K A n c L _ HX.out (hA.below hbb) hbx hc0).mono ?_;rintro e w1 ⟨rfl,ay⟩;have ai:=hbb.trans (ay.mono (by simp));go_wp2_with fail
 go_ret;exact ⟨zAm (by simp),ai⟩
theorem zIK (p:Nat) (K:Int) (A:Option Addr) (n c:Nat) (L:List Lt) (v2 v3 v4 v5 v6:Value) (w:ZY) (hA:Lets w A n L) (h0:0 < n) (hd:Dia w p K A n c v2 v3 v4 v5 v6) :
  Calls ZX 176 #[.pointer (Z ⟨p,0,U⟩)] w fun e w'=>e=.returned (G (isP (la L 0)&&decide (pN L n % 2=0)))/\ZZ w.heap.size w w':=by
 have hc0:=hd.c0;have o9:=hd.c1;obtain ⟨g,o,rfl,hg,hx,_⟩:=hA.at_ h0;have hz:=hx.kind;simp only [Nat.zero_mul,Nat.add_zero] at hz;by_cases hk:(la L 0).kind=1
 ·have aq:((la L 0).kind==1)=Q:=by simpa using hk
  have hf:=qH (show (isP (la L 0)&&decide (pN L n % 2=0))=((pN L n:Int) % 2==0) by rw [zKh hk];rw [Bool.eq_iff_iff];simp;omega);clear hk;go_enter Tryz.func176,Tryz.ntmps176;go_wp2_with fail
  refine (zLp K (Z ⟨g,o,U⟩) n c L _ hA).mono ?_;rintro e w1 ⟨rfl,ay⟩;go_wp2_with fail
  go_ret;exact ⟨zAm hf.out.symm,ay⟩
 ·have aq:((la L 0).kind==1)=E:=by simpa using hk
  have hf:=qH (show (isP (la L 0)&&decide (pN L n % 2=0))=E by rw [zLo hk];rfl);clear hk;go_enter Tryz.func176,Tryz.ntmps176;go_wp2_with fail
  go_ret;exact ⟨zAm hf.out.symm,M _ _⟩
