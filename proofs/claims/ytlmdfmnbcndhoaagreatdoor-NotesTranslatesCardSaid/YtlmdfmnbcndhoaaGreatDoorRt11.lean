/-
  Lemmas. Conditions: each one's own.
-/
import Derived.Test.YtlmdfmnbcndhoaaGreatDoorRt10
open Go.RowKit
set_option maxHeartbeats 6400000
open Go renaming World->ZY
open Go.Value renaming bool->G,int->D,slice->H,string->W
open Option renaming none->U,some->Z
open Go.Proofs.Tryz renaming prog->ZX
open Go.RowKit renaming Below->ZZ
open Go.RowKit.Below renaming refl->M
open Nat renaming le_refl->O
open Go.IntKind renaming i64->J
open Bool renaming false->E,true->Q
namespace Go.Proofs.YtlmdfmnbcndhoaaGreatDoor
theorem zJz (S:List UInt8) (hs:S.length<=1000000) (w:ZY) :
  Calls ZX 145 #[W (bA S),W ⟨#[44]⟩] w fun e w'=>e=.returned (.tuple #[W (bA (if S.getLast? = Z 44 then S.dropLast else S)),G (decide (S.getLast? = Z 44))])/\w'=w:=by
 refine (Tryz.strings_CutSuffix (bA S) ⟨#[44]⟩ w (by rw [zAH];omega)).mono ?_;rintro e w' ⟨rfl,rfl⟩;have h1:Lib.hasSuffix S [44]=decide (S.getLast? = Z 44):=by
  unfold Lib.hasSuffix;by_cases h:S.getLast? = Z 44
  ·rw [decide_eq_true h,List.isSuffixOf_iff_suffix];obtain ⟨C,rfl⟩:=List.getLast?_eq_some_iff.1 h;exact ⟨C,rfl⟩
  ·rw [decide_eq_false h]
   cases e:List.isSuffixOf [44] S with
   | false=>rfl
   | true =>
    obtain ⟨C,hC⟩:=List.isSuffixOf_iff_suffix.1 e;exact absurd (List.getLast?_eq_some_iff.2 ⟨C,hC.symm⟩) h
 have h2:Lib.trimSuffix S [44]=if S.getLast? = Z 44 then S.dropLast else S:=by
  unfold Lib.trimSuffix;rw [h1];by_cases h:S.getLast? = Z 44
  ·rw [qP h,qP (decide_eq_true h),List.dropLast_eq_take];rfl
  ·rw [qN h,qN (by simpa using h)]
 simp only [zDG];rw [h1,h2];exact ⟨rfl,trivial⟩
theorem zHz (s:List UInt8) (hs:s.length<=100000) (w:ZY) (ht:Tabs w) :
  Calls ZX 119 #[W (bA s),W ⟨#[32]⟩] w fun e w'=>e=.returned (.slice (Z ⟨w.heap.size,0,U⟩) (zAI 32 s).length (zAI 32 s).length)/\w'=w.alloc (.cells ((zAI 32 s).map fun p=>Value.string (bA p)).toArray 9):=by
 obtain ⟨m,hm⟩:=ht.most;refine (Tryz.strings_Split (bA s) ⟨#[32]⟩ m w (by rw [zAH];omega) hm (by decide)).mono ?_;rintro e w' ⟨rfl,rfl⟩;have h1:Lib.splitB ⟨#[32]⟩ 0 (Lib.countB (bA s) ⟨#[32]⟩) (bA s)=(zAI 32 s).map bA:=zLL 32 s;have h2:Lib.countB (bA s) ⟨#[32]⟩+1=(zAI 32 s).length:=by
  rw [zEk]
  congr 1
  exact Lib.count_one 32 s
 rw [h1,h2,List.map_map];exact ⟨rfl,rfl⟩
theorem Row.els {α:Type} {w:ZY} {base sz:Nat} {A:Option Addr} {n c:Nat} {enc:α->List Value} {L:List α} (h:Row w base sz A n c (L.flatMap enc)) (hz:∀x,(enc x).length=sz) (h0:0 < sz) (hn:n<=17592186043904):Els sz enc w A n L:=by
 have hl:L.length=n:=by
  have:=h.len;have h2:∀ZN:List α,(ZN.flatMap enc).length=ZN.length*sz:=fun ZN=>by
   induction ZN with
   | nil=>simp
   | cons x ZN ih=>rw [List.flatMap_cons,List.length_append,ih,hz,List.length_cons,Nat.add_mul];omega
  rw [h2] at this;exact Nat.eq_of_mul_eq_mul_right h0 this
 refine ⟨hl,hn,fun hp=>?_⟩;obtain ⟨g,o,e,_,hg⟩:=h.form hp;subst e;refine ⟨g,o,rfl,hg,fun j x hx q v hv=>?_⟩;have hq:q < sz:=by rw [<-hz x];exact (List.getElem?_eq_some_iff.1 hv).1
 have:=h.cell (j:=j*sz+q) (by rw [zFQ enc sz hz L j q x hx hq];exact hv)
 rwa [<-Nat.add_assoc] at this
theorem zSd (T:List (List UInt8)):T.map zDE=T.flatMap (fun S=>[zDE S]):=by
 induction T with
 | nil=>rfl
 | cons x T ih=>rw [List.map_cons,List.flatMap_cons,ih];rfl
theorem Row.txts {w:ZY} {base:Nat} {A:Option Addr} {n c:Nat} {T:List (List UInt8)} (h:Row w base 1 A n c (T.map zDE)) (hn:n<=17592186043904):Txts w A n T:=by
 rw [zSd] at h;exact h.els (fun _=>rfl) (by omega) hn
theorem zWJ {w:ZY} {ops:Array Oper} {rest:List Oper} {o:Oper} {a:Act} {ZP:Exit->Act->ZY->Prop} (hgd:o.guard=U) (s x:Operand)
  (ho:o.op=.call { callee:=.builtin .append,args:=#[s,x],argTypes:=#[112,112] })
  {base:Nat} {A:Option Addr} {n c:Nat} {Ss:List (List UInt8)} (hst:Row w base 1 A n c (Ss.map zDE)) (S R:List UInt8)
  (hs:a.eval s=H A n c) (hx:a.eval x=H (Z ⟨w.heap.size,0,U⟩) 2 2) (N:Nat) (hN:n+2=N) (hn:N<=1000000) (hbase:base<=w.heap.size)
  (h:∀A' c' w',Row w' base 1 A' N c' ((Ss++[S,R]).map zDE)->ZZ base w w'->wpList ZX ops ZP rest (a.put o.dst (H A' N c')) w') :
  wpList ZX ops ZP (o :: rest) a (w.alloc (.cells #[W (bA S),W (bA R)] 9)):=by
 obtain ⟨i0,hi,cD,bu,cM⟩:=info_parts zJc;have hbl:=(M w.heap.size w).alloc (O _) (.cells #[W (bA S),W (bA R)] 9);have cS:=hst.below hbl
 refine zRt hgd s x 112 ho 9 i0 _ 1 16 Tryz.underlying112 hi cD bu cM rfl (by decide) cS (Src.new (m:=2) (cs:=[W (bA S),W (bA R)]) rfl)
  (by intro u hu;simp at hu;rcases hu with rfl | rfl<;>rfl) hs hx N hN (by unfold maxLen;omega) (by omega) (by simp;omega) ?_
 intro A' c' w' h1 h2 _ _;refine h A' c' w' (by rw [List.map_append];exact h1) ?_;exact ((M _ _).alloc hbase _).trans (cS.belowOf h2 (by simp;omega))
def zDe (w0:ZY) (T:List (List UInt8)) (e:Ending) (w':ZY):Prop :=
 ∃B m d,e=.returned (H B m d)/\Row w' w0.heap.size 1 B m d (T.map zDE)/\m<=1000000/\ZZ w0.heap.size w0 w'
theorem zNV (ZO:List (List UInt8)):(ZO.flatMap zAR).length<=2*ZO.length:=by
 induction ZO with
 | nil=>simp
 | cons x ZO ih =>
  have:(zAR x).length<=2:=by rcases zBi x with ⟨h,_⟩ | ⟨C,_,h⟩<;>rw [h]<;>simp
  rw [List.flatMap_cons,List.length_append,List.length_cons];omega
theorem zBp (S:List UInt8):(zAI 32 S).length<=S.length+1:=by
 rw [zEk];have:=List.count_le_length (a:=(32:UInt8)) (l:=S);omega
theorem zEm (S:List UInt8):(zBw S).length<=2*S.length+2:=by
 have:=zNV (zAI 32 S);have:=zBp S;unfold zBw;omega
theorem zLV (S:List UInt8) (hS:S.length<=100000) (w:ZY) (ht:Tabs w) :
  Calls ZX 97 #[W (bA S)] w (zDe w (zBw S)):=by
 have eO:=qH (zHz S hS w ht);obtain ⟨Ws,hW⟩:∃ZO,zAI 32 S=ZO:=⟨_,rfl⟩
 rw [hW] at eO;have hpl:∀p∈Ws,p.length<=100000:=fun p hp=>by rw [<-hW] at hp;exact Nat.le_trans (zAJ 32 S p hp) hS
 have hwl:Ws.length<=100001:=by rw [<-hW];have:=zBp S;omega
 have HT:=qH (show zBw S=Ws.flatMap zAR by unfold zBw;rw [hW]);have cc:=qH hpl;rw [HT.out];obtain ⟨n,hn⟩:∃n,Ws.length=n:=⟨_,rfl⟩
 rw [hn] at eO hwl;have HN:=qH hn;clear hW hpl ht hn hS HT;go_enter Tryz.func97,Tryz.ntmps97;go_wp2_with fail
 refine eO.out.mono ?_;rintro e X ⟨rfl,hX⟩;have bD:ZZ w.heap.size w X:=by rw [hX];exact (M _ _).alloc (O _) _
 have yu:∀(j:Nat) (p:List UInt8),Ws[j]? = Z p->X.cell? ⟨w.heap.size,j,U⟩=Z (W (bA p)):=fun j p hp=>by
  rw [hX,World.cell?_alloc_at _ _ _ _ rfl];simp [hp]
 have kS:w.heap.size < X.heap.size:=by rw [hX];simp
 have Ab:=qH yu;clear hX yu eO;go_wp2_with fail
 go_loopw [3,11] (fun v3 v11 wv=>∃(i:Nat) (Y:ZY) (A':Option Addr) (m c':Nat) (T:List (List UInt8)),Y=wv/\i<=n/\v11=D J i/\v3=H A' m c'/\Row Y X.heap.size 1 A' m c' (T.map zDE)/\ZZ X.heap.size X Y/\m<=2*i/\Hid (T=(Ws.take i).flatMap zAR)) (fun _ v11 _=>n-(intOf v11).toNat)
 case atStart=>exact ⟨0,_,U,0,0,[],rfl,by omega,rfl,rfl,Row.none_ _ _ _,M _ _,by omega,qH rfl⟩
 case round =>
  obtain ⟨i,Y,A',m,c',T,hY,hi,rfl,rfl,hR,hb,hm,cQ⟩:=hrel;subst hY;by_cases hlt:i < n
  ·have j0:(0:Int)<=(i:Int):=by omega
   have j1:(i:Int) < (n:Int):=by omega
   obtain ⟨p,hp⟩:∃p,Ws[i]? = Z p:=⟨Ws[i]'(by rw [HN.out];exact hlt),List.getElem?_eq_getElem _⟩
   have hc:Y.cell? ⟨w.heap.size,i,U⟩=Z (W (bA p)):=(hb.cell (p:=⟨w.heap.size,i,U⟩) kS).trans (Ab.out i p hp);have hlen:p.length<=1000000:=Nat.le_trans (cc.out p (List.mem_of_getElem? hp)) (by omega);have f8:=qH (zJz p hlen Y);have hz:X.heap.size<=Y.heap.size:=hb.size;by_cases hq:p.getLast? = Z 44
   ·rw [qP hq,decide_eq_true hq] at f8;obtain ⟨C,hC⟩:∃C,p.dropLast=C:=⟨_,rfl⟩
    rw [hC] at f8
    have lx:=qH (show T++[C,[44]]=(Ws.take (i+1)).flatMap zAR by
     rw [List.take_add_one,hp,List.flatMap_append,cQ.out]
     simp [zAR,hq,hC])
    clear hp hlen hq hC cQ;go_wp2_with fail
    refine f8.out.mono ?_;rintro e Y2 ⟨rfl,rfl⟩;go_wp2_with (at_builtin;refine zWJ rfl _ _ rfl hR C [44] rfl rfl (m+2) rfl (by omega) hz ?_;intro A2 c2 w9 hR9 bn)
    have co:=hb.trans bn;clear hR hb bn hc;go_wp2_with fail
    go_roundw
    case rel=>exact ⟨i+1,_,A2,m+2,c2,T++[C,[44]],rfl,by omega,by go_num,rfl,hR9,co,by omega,lx⟩
    case measure=>simp [intOf];omega
   ·rw [qN hq,decide_eq_false hq] at f8
    have lx:=qH (show T++[p]=(Ws.take (i+1)).flatMap zAR by
     rw [List.take_add_one,hp,List.flatMap_append,cQ.out]
     simp [zAR,hq])
    clear hp hlen hq cQ;go_wp2_with fail
    refine f8.out.mono ?_;rintro e Y2 ⟨rfl,rfl⟩;go_wp2_with (at_builtin;refine zLD rfl _ _ rfl hR p rfl rfl (m+1) rfl (by omega) hz ?_;intro A2 c2 w9 hR9 bn)
    have co:=hb.trans bn;clear hR hb bn hc;go_wp2_with fail
    go_roundw
    case rel=>exact ⟨i+1,_,A2,m+1,c2,T++[p],rfl,by omega,by go_num,rfl,hR9,co,by omega,lx⟩
    case measure=>simp [intOf];omega
  ·have j1:¬(i:Int) < (n:Int):=by omega
   have hin:i=n:=by omega
   have qc:=qH (show T=Ws.flatMap zAR by rw [cQ.out,hin,<-HN.out,List.take_length]);have hz:w.heap.size<=X.heap.size:=bD.size;clear hin hlt cQ Ab;go_wp2_with fail
   go_ret;exact ⟨A',m,c',rfl,by rw [<-qc.out];exact hR.mono hz,by omega,zAa bD hb bD.size⟩
theorem zPR (rb:Nat) (F:Fm) (s:RS) (w:ZY) (h:RX w rb F s) (hT:s.T.length<=100000) :
  Calls ZX 98 #[.pointer (Z ⟨rb,0,U⟩)] w (zEJ w rb F (opR F.L s).1 (opR F.L s).2):=by
 by_cases h3:zBI (xa s.T 0)=3
 ·exact zLS rb F s w h hT h3
 by_cases h6:zBI (xa s.T 0)=6∨zBI (xa s.T 0)=7
 ·exact zLU rb F s w h hT h6
 ·exact zLT rb F s w h hT ⟨h3,fun e=>h6 (.inl e),fun e=>h6 (.inr e)⟩
def zAC (L:List Fg) (re lo:Int) (S:List UInt8):Int:=if frB L re lo then (if 8000 < S.length then 7 else 0) else 2
theorem zDs (A:Option Addr) (n c:Nat) (L:List Fg) (re lo:Int) (S:List UInt8) (w:ZY) (hA:Fgs w A n L) (hc:n<=c) :
  Calls ZX 51 #[frV A n c re lo,W (bA S)] w fun e w'=>e=.returned (D J (zAC L re lo S))/\ZZ w.heap.size w w':=by
 obtain ⟨b,hb⟩:∃b,frB L re lo=b:=⟨_,rfl⟩
 have hs:=zBz S;obtain ⟨n1,mU⟩:∃n,S.length=n:=⟨_,rfl⟩
 have HR:=qH (show zAC L re lo S=if b then (if 8000 < n1 then 7 else 0) else 2 by unfold zAC;rw [hb,mU]);rw [mU] at hs;have ah:ZZ w.heap.size w (w.alloc (.cells #[H A n c,D J re,D J lo] 24)):=(M _ _).alloc (O _) _;have HV:=qH (zFc hb A n c _ (hA.below ah) hc);have HB:=qH ah;clear hb mU ah;go_enter Tryz.func51,Tryz.ntmps51;go_wp2_with fail
 refine HV.out.mono ?_;rintro e w2 ⟨rfl,ai⟩;have iv:=qH (zAa HB.out ai HB.out.size);clear ai HV HB
 cases b with
 | false =>
  go_wp2_with fail
  go_ret;exact ⟨by rw [HR.out];rfl,iv.out⟩
 | true =>
  by_cases h8:8000 < n1
  ·have i0:(8000:Int) < (n1:Int):=by omega
   have lz:=qH (HR.out.trans (show _=(7:Int) by rw [qP rfl,qP h8]));clear h8 HR;go_wp2_with fail
   go_ret;exact ⟨by rw [lz.out];rfl,iv.out⟩
  ·have i0:¬(8000:Int) < (n1:Int):=by omega
   have lz:=qH (HR.out.trans (show _=(0:Int) by rw [qP rfl,qN h8]));clear h8 HR;go_wp2_with fail
   go_ret;exact ⟨by rw [lz.out];rfl,iv.out⟩
noncomputable def zSe (L:List Fg) (S:List UInt8):Bool:=(opR L ⟨zBw S,E,E⟩).2.bad||!(opR L ⟨zBw S,E,E⟩).2.T.isEmpty
noncomputable def zWl (L:List Fg) (S:List UInt8):Bool:=(opR L ⟨zBw S,E,E⟩).2.lost
noncomputable def zDt (L:List Fg) (S:List UInt8):Int:=if zSe L S then 6 else if zWl L S then 8 else 0
def o0:Og:=⟨0,0,s0,[],E⟩
noncomputable def zEL (L:List Fg) (S:List UInt8):Og:=if zDt L S=0 then (opR L ⟨zBw S,E,E⟩).1 else o0
def OpErr (w0:ZY) (o:Og) (er:Int) (e:Ending) (w':ZY):Prop :=
 ∃B m d,e=.returned (.tuple #[opV o B m d,D J er])/\Row w' w0.heap.size 5 B m d (o.path.flatMap zCl)/\m=o.path.length/\ZZ w0.heap.size w0 w'
theorem zXU (A:Option Addr) (n c:Nat) (re lo:Int) (B:Option Addr) (m d:Nat) (w:ZY):(Instr.build 123 #[(0,.agg #[H A n c,D J re,D J lo]),(1,H B m d)]).run ZX w=.ok (.agg (rdC A n c re lo B m d E E)) w:=run_build w _ _ _ (by kernel_rfl)
theorem zDT {a b:ZY} (h:ZZ a.heap.size a b) (o:Obj):ZZ a.heap.size a (b.alloc o):=h.alloc h.size o
theorem zHA (F:Fm) (S:List UInt8) (w:ZY) (hA:Fgs w F.A F.n F.L) (hS:S.length<=20000) (ht:Tabs w) :
  Calls ZX 52 #[frV F.A F.n F.c F.re F.lo,W (bA S)] w (OpErr w (zEL F.L S) (zDt F.L S)):=by
 have ah:ZZ w.heap.size w ((w.alloc (.cells #[H F.A F.n F.c,D J F.re,D J F.lo] 24)).alloc (.cells #[D J 0,D J 0,D J 0,D J 0,G E,D J 0,H U 0 0,G E] 32)):=((M _ _).alloc (O _) _).alloc (by simp) _;have hk0:Blk ((w.alloc (.cells #[H F.A F.n F.c,D J F.re,D J F.lo] 24)).alloc (.cells #[D J 0,D J 0,D J 0,D J 0,G E,D J 0,H U 0 0,G E] 32)) w.heap.size 24 #[H F.A F.n F.c,D J F.re,D J F.lo]:=(Blk.new w _ _).alloc _;have aq:Blk ((w.alloc (.cells #[H F.A F.n F.c,D J F.re,D J F.lo] 24)).alloc (.cells #[D J 0,D J 0,D J 0,D J 0,G E,D J 0,H U 0 0,G E] 32)) (w.heap.size+1) 32 #[D J 0,D J 0,D J 0,D J 0,G E,D J 0,H U 0 0,G E]:=by
  have:=Blk.new (w.alloc (.cells #[H F.A F.n F.c,D J F.re,D J F.lo] 24)) 32 #[D J 0,D J 0,D J 0,D J 0,G E,D J 0,H U 0 0,G E]
  rwa [World.size_alloc] at this
 have HA:=qH hA;have HT:=qH ht;have eO:=qH (fun wx (hx:Tabs wx)=>zLV S (by omega) wx hx);obtain ⟨a1,cY⟩:∃a,a=w.heap.size+1:=⟨_,rfl⟩
 have ig:=qH cY;clear hA ht;go_enter Tryz.func52,Tryz.ntmps52;go_wp2_with fail
 generalize (w.alloc (.cells #[H F.A F.n F.c,D J F.re,D J F.lo] 24)).alloc (.cells #[D J 0,D J 0,D J 0,D J 0,G E,D J 0,H U 0 0,G E] 32)=Y at ah hk0 aq ⊢;rw [<-cY] at aq ⊢;clear cY
 have KP:=qH (show ∀wx,ZZ Y.heap.size Y wx->(ZZ Y.heap.size Y wx/\wx.cell? ⟨w.heap.size,0,U⟩=Z (H F.A F.n F.c)/\wx.cell? ⟨w.heap.size,1,U⟩=Z (D J F.re)/\wx.cell? ⟨w.heap.size,2,U⟩=Z (D J F.lo)) from
  fun wx h=>⟨h,((hk0.below h hk0.lt).cell 0).trans rfl,((hk0.below h hk0.lt).cell 1).trans rfl,((hk0.below h hk0.lt).cell 2).trans rfl⟩)
 have TB:=qH (fun wx (h:ZZ Y.heap.size Y wx)=>HT.out.below (zAa ah h ah.size));go_upto_region 1 with fail
 first
  | go_region_held3 (fun wx=>ZZ Y.heap.size Y wx/\wx.cell? ⟨w.heap.size,0,U⟩=Z (H F.A F.n F.c)/\wx.cell? ⟨w.heap.size,1,U⟩=Z (D J F.re)/\wx.cell? ⟨w.heap.size,2,U⟩=Z (D J F.lo)) (first | assumption | exact KP.out _ (M _ _).drew | exact KP.out _ (zAa (M Y.heap.size Y).drew (by assumption) (O _)) | exact KP.out _ (zDT (zAa (M Y.heap.size Y).drew (by assumption) (O _)) _))
    (first
     | (go_at_call 97;refine (eO.out _ (TB.out _ (And.left (by assumption)))).mono ?_;rintro e wa ⟨B,m,d,rfl,eH,hma,hba⟩))
  | fail
 all_goals
  have hbx:ZZ Y.heap.size Y wa:=zAa (M Y.heap.size Y).drew hba (O _);have hbz:ZZ Y.heap.size Y (wa.alloc (.cells (rdC F.A F.n F.c F.re F.lo B m d E E) 123)):=zDT hbx _;have hwz:ZZ w.heap.size w (wa.alloc (.cells (rdC F.A F.n F.c F.re F.lo B m d E E) 123)):=zAa ah hbz ah.size;have hbl:=(M wa.heap.size wa).alloc (O _) (.cells (rdC F.A F.n F.c F.re F.lo B m d E E) 123)
  have hrx:RX (wa.alloc (.cells (rdC F.A F.n F.c F.re F.lo B m d E E) 123)) wa.heap.size F ⟨zBw S,E,E⟩ :=
   ⟨⟨B,m,d,Blk.new _ _ _,Els.below (eH.txts (by omega)) hbl,eH.cap,fun k hk=>(eH.lt k hk).2⟩,HA.out.below hwz,fun h0 k hk=>by
    obtain ⟨g,o,e,hg,_⟩:=HA.out.1.2.2 h0
    rw [e] at hk
    injection hk with hk
    have iZ:g=k:=hk
    have h1:=ah.size
    have h2:=hbx.size
    omega⟩
  have hkz:=aq.below hbz aq.lt;have uz:a1 < wa.heap.size:=Nat.lt_of_lt_of_le aq.lt hbx.size;have jM:(zBw S).length<=100000:=by have:=zEm S;omega
  clear hba eH hma hbl hbz hbx hk0 aq KP TB eO;generalize wa.alloc (.cells (rdC F.A F.n F.c F.re F.lo B m d E E) 123)=ZR at hrx hkz hwz ⊢;have el:Hid (a1 < ZR.heap.size):=qH (Nat.lt_trans uz hrx.lt);generalize wa.heap.size=rb at hrx uz ⊢;have iO:=zPR rb F ⟨zBw S,E,E⟩ ZR hrx jM;obtain ⟨ov,eov⟩:∃x,(opR F.L ⟨zBw S,E,E⟩).1=x:=⟨_,rfl⟩
  obtain ⟨st,est⟩:∃x,(opR F.L ⟨zBw S,E,E⟩).2=x:=⟨_,rfl⟩
  rw [eov,est] at iO;have jh:=qH iO;have EOV:=qH eov;have D5:=qH est;clear iO eov est jM;go_wp2_with fail
  refine jh.out.mono ?_;rintro e Z2 ⟨B2,m2,d2,rfl,hrow,cE,oX,dr⟩;have fO:=qH cE;clear cE;obtain ⟨kk,ff,⟨gf,gl,gfar,gpc⟩,path,vov⟩:=ov;obtain ⟨B3,m3,d3,cu,jb,Cb,B9⟩:=oX.rd.ex;have ul:ZZ w.heap.size w Z2:=zAa hwz (zBM dr (show w.heap.size<=rb by have:=ig.out;omega) hwz.size) (O _);have uE:=hkz.grown dr (fun he=>by injection he with he;omega);have b3:ZZ Z2.heap.size Z2 (Z2.alloc (.cells #[D J kk,D J ff,D J gf,D J gl,G gfar,D J gpc,H B2 m2 d2,G vov] 32)):=(M _ _).alloc (O _) _;have da:=uE.below b3 uE.lt;have qj:=cu.below b3 cu.lt;have qk:Blk (Z2.alloc (.cells #[D J kk,D J ff,D J gf,D J gl,G gfar,D J gpc,H B2 m2 d2,G vov] 32)) Z2.heap.size 32 #[D J kk,D J ff,D J gf,D J gl,G gfar,D J gpc,H B2 m2 d2,G vov]:=Blk.new _ _ _;have qi:=zAa ul b3 ul.size;have oZ:=hrow.below b3;have ux:st.T.length=m3:=jb.len;obtain ⟨b4,C8⟩:∃b,st.bad=b:=⟨_,rfl⟩
  obtain ⟨b5,C7⟩:∃b,st.lost=b:=⟨_,rfl⟩
  rw [C8,C7] at qj;have pJ:=qH (show zSe F.L S=(b4||!decide (m3=0)) by unfold zSe;rw [D5.out,C8,<-ux];cases st.T<;>simp);have cc:=qH (show zWl F.L S=b5 by unfold zWl;rw [D5.out,C7]);clear jb Cb B9 cu b3 uE hkz hwz dr oX hrow ul ux C8 C7 D5 uz;go_upto_region 3 with fail
  generalize Z2.alloc (.cells #[D J kk,D J ff,D J gf,D J gl,G gfar,D J gpc,H B2 m2 d2,G vov] 32)=Z3 at da qj qk qi oZ ⊢;generalize Z2.heap.size=a7 at qk ⊢;obtain ⟨-,-,-,c3,c4,c5⟩:=cQ6 qj;have y0:Z3.cell? ⟨a1,0,U⟩=Z (D J 0):=(da.cell 0).trans rfl;have ki:=da.frozen 0;have y1:Z3.cell? ⟨a1,1,U⟩=Z (D J 0):=(da.cell 1).trans rfl;have kh:=da.frozen 1;have y2:Z3.cell? ⟨a1,2,U⟩=Z (D J 0):=(da.cell 2).trans rfl;have lT:=da.frozen 2;have y3:Z3.cell? ⟨a1,3,U⟩=Z (D J 0):=(da.cell 3).trans rfl;have lS:=da.frozen 3;have y4:Z3.cell? ⟨a1,4,U⟩=Z (G E):=(da.cell 4).trans rfl;have lQ:=da.frozen 4;have y5:Z3.cell? ⟨a1,5,U⟩=Z (D J 0):=(da.cell 5).trans rfl;have lO:=da.frozen 5;have y6:Z3.cell? ⟨a1,6,U⟩=Z (H U 0 0):=(da.cell 6).trans rfl;have lM:=da.frozen 6;have y7:Z3.cell? ⟨a1,7,U⟩=Z (G E):=(da.cell 7).trans rfl;have lK:=da.frozen 7;obtain ⟨f0,f1,f2,f3,f4,f5,f6,f7⟩:=cQ8 qk;have hge:w.heap.size<=a1:=by have:=ig.out;omega
  have SZ:=qH (da.store8 (D J 0) (D J 0) (D J 0) (D J 0) (G E) (D J 0) (H U 0 0) (G E));have BZ:=qH (zAc qi hge (D J 0) (D J 0) (D J 0) (D J 0) (G E) (D J 0) (H U 0 0) (G E));have SV:=qH (da.store8 (D J kk) (D J ff) (D J gf) (D J gl) (G gfar) (D J gpc) (H B2 m2 d2) (G vov));have BV:=qH (zAc qi hge (D J kk) (D J ff) (D J gf) (D J gl) (G gfar) (D J gpc) (H B2 m2 d2) (G vov));have uy:a1 < ZR.heap.size:=el.out;have RV:=qH ((oZ.store8 uy (D J kk) (D J ff) (D J gf) (D J gl) (G gfar) (D J gpc) (H B2 m2 d2) (G vov)).mono (Nat.le_of_lt (Nat.lt_of_le_of_lt hge uy)));clear da qj qk qi oZ uy hge;by_cases hbd:b4=Q∨¬m3=0
  ·have HE:=qH (show zDt F.L S=6 by unfold zDt;rw [pJ.out];rcases hbd with h | h<;>simp [h]);have HO:=qH (show zEL F.L S=o0 by unfold zEL;rw [HE.out];rfl)
   cases b4 with
   | true =>
    clear hbd c3 c5;go_wp2_with fail
    exact zAF rfl rfl rfl SZ.out Tryz.underlying32 rfl (by kernel_rfl) rfl (by rw [HE.out,HO.out];exact ⟨U,0,0,rfl,Row.none_ _ _ _,rfl,BZ.out⟩)
   | false =>
    have i1:0 < m3:=by have:=hbd.resolve_left (by simp);omega
    clear hbd c5;go_wp2_with fail
    exact zAF rfl rfl rfl SZ.out Tryz.underlying32 rfl (by kernel_rfl) rfl (by rw [HE.out,HO.out];exact ⟨U,0,0,rfl,Row.none_ _ _ _,rfl,BZ.out⟩)
  ·have bh:b4=E:=by cases b4<;>simp at hbd ⊢
   subst bh;have hm0:m3=0:=by simpa using hbd
   subst hm0;clear hbd
   cases b5 with
   | true =>
    have HE:=qH (show zDt F.L S=8 by unfold zDt;rw [pJ.out,cc.out];rfl);have HO:=qH (show zEL F.L S=o0 by unfold zEL;rw [HE.out];rfl);go_wp2_with fail
    exact zAF rfl rfl rfl SZ.out Tryz.underlying32 rfl (by kernel_rfl) rfl (by rw [HE.out,HO.out];exact ⟨U,0,0,rfl,Row.none_ _ _ _,rfl,BZ.out⟩)
   | false =>
    have HE:=qH (show zDt F.L S=0 by unfold zDt;rw [pJ.out,cc.out];rfl);have HO:=qH (show zEL F.L S=⟨kk,ff,⟨gf,gl,gfar,gpc⟩,path,vov⟩ by unfold zEL;rw [HE.out,qP rfl];exact EOV.out);go_wp2_with fail
    exact zAF rfl rfl rfl SV.out Tryz.underlying32 rfl (by kernel_rfl) rfl (by rw [HE.out,HO.out];exact ⟨B2,m2,d2,rfl,RV.out,fO.out,BV.out⟩)
noncomputable def rdE (L:List Fg) (re lo:Int) (S:List UInt8):Int:=if zAC L re lo S=0 then zDt L S else zAC L re lo S
noncomputable def rdO (L:List Fg) (re lo:Int) (S:List UInt8):Og:=if zAC L re lo S=0 then zEL L S else o0
theorem zBZ {L:List Fg} {re lo:Int} {S:List UInt8} (h:zAC L re lo S=0):S.length<=8000/\frB L re lo=Q:=by
 unfold zAC at h;split at h
 ·rename_i h1;split at h
  ·omega
  ·exact ⟨by omega,h1⟩
 ·omega
theorem zEM (L:List Fg) (re lo:Int) (S:List UInt8):zAC L re lo S=0∨zAC L re lo S=2∨zAC L re lo S=7:=by
 unfold zAC;split
 ·split<;>omega
 ·omega
theorem zHB (F:Fm) (S:List UInt8) (w:ZY) (hA:Fgs w F.A F.n F.L) (hc:F.n<=F.c) (ht:Tabs w) :
  Calls ZX 17 #[frV F.A F.n F.c F.re F.lo,W (bA S)] w (OpErr w (rdO F.L F.re F.lo S) (rdE F.L F.re F.lo S)):=by
 have ah:ZZ w.heap.size w ((w.alloc (.cells #[H F.A F.n F.c,D J F.re,D J F.lo] 24)).alloc (.cells #[D J 0,D J 0,D J 0,D J 0,G E,D J 0,H U 0 0,G E] 32)):=((M _ _).alloc (O _) _).alloc (by simp) _;have hk0:Blk ((w.alloc (.cells #[H F.A F.n F.c,D J F.re,D J F.lo] 24)).alloc (.cells #[D J 0,D J 0,D J 0,D J 0,G E,D J 0,H U 0 0,G E] 32)) w.heap.size 24 #[H F.A F.n F.c,D J F.re,D J F.lo]:=(Blk.new w _ _).alloc _;have aq:Blk ((w.alloc (.cells #[H F.A F.n F.c,D J F.re,D J F.lo] 24)).alloc (.cells #[D J 0,D J 0,D J 0,D J 0,G E,D J 0,H U 0 0,G E] 32)) (w.heap.size+1) 32 #[D J 0,D J 0,D J 0,D J 0,G E,D J 0,H U 0 0,G E]:=by
  have:=Blk.new (w.alloc (.cells #[H F.A F.n F.c,D J F.re,D J F.lo] 24)) 32 #[D J 0,D J 0,D J 0,D J 0,G E,D J 0,H U 0 0,G E]
  rwa [World.size_alloc] at this
 have HA:=qH hA;have HT:=qH ht;obtain ⟨ZQ,hE⟩:∃ZQ,zAC F.L F.re F.lo S=ZQ:=⟨_,rfl⟩
 have hcs:=zEM F.L F.re F.lo S;rw [hE] at hcs;have lE:=qH (fun wx (hx:Fgs wx F.A F.n F.L)=>zDs F.A F.n F.c F.L F.re F.lo S wx hx hc);simp only [hE] at lE;have HE:=qH hE;obtain ⟨a1,cY⟩:∃a,a=w.heap.size+1:=⟨_,rfl⟩
 have hge:w.heap.size<=a1:=by omega
 have bO:=qH hge;clear hA ht hE hge;go_enter Tryz.func17,Tryz.ntmps17;go_wp2_with fail
 generalize ((w.alloc (.cells #[H F.A F.n F.c,D J F.re,D J F.lo] 24)).alloc (.cells #[D J 0,D J 0,D J 0,D J 0,G E,D J 0,H U 0 0,G E] 32))=Y at ah hk0 aq ⊢;rw [<-cY] at aq ⊢;clear cY;refine (lE.out Y (HA.out.below ah)).mono ?_;rintro e Y2 ⟨rfl,ai⟩;have hk2:=aq.below ai aq.lt;have bt:=hk0.below ai hk0.lt;have al:=zAa ah ai ah.size;clear aq hk0 ah ai lE;by_cases h0:ZQ=0
 ·subst h0;have hS:=(zBZ HE.out).1;have HR:=qH (show rdE F.L F.re F.lo S=zDt F.L S/\rdO F.L F.re F.lo S=zEL F.L S by unfold rdE rdO;rw [HE.out];exact ⟨rfl,rfl⟩);have jV:=qH (zHA F S Y2 (HA.out.below al) (by omega) (HT.out.below al));obtain ⟨v0,v1,v2⟩:=cQ3 bt;clear hcs hS bt;go_wp2_with fail
  refine jV.out.mono ?_;rintro e Y3 ⟨B2,m2,d2,rfl,hrow,cE,bh⟩;have fO:=qH cE;have cu:=hk2.below bh hk2.lt;have hlt2:a1 < Y2.heap.size:=hk2.lt;have az:=zAa al bh al.size;have HO:=qH HR.out.2;obtain ⟨ov,eov⟩:∃x,zEL F.L S=x:=⟨_,rfl⟩
  rw [eov] at hrow fO HO ⊢;clear eov cE;obtain ⟨kk,ff,⟨gf,gl,gfar,gpc⟩,path,vov⟩:=ov;have y0:Y3.cell? ⟨a1,0,U⟩=Z (D J 0):=(cu.cell 0).trans rfl;have ki:=cu.frozen 0;have y1:Y3.cell? ⟨a1,1,U⟩=Z (D J 0):=(cu.cell 1).trans rfl;have kh:=cu.frozen 1;have y2:Y3.cell? ⟨a1,2,U⟩=Z (D J 0):=(cu.cell 2).trans rfl;have lT:=cu.frozen 2;have y3:Y3.cell? ⟨a1,3,U⟩=Z (D J 0):=(cu.cell 3).trans rfl;have lS:=cu.frozen 3;have y4:Y3.cell? ⟨a1,4,U⟩=Z (G E):=(cu.cell 4).trans rfl;have lQ:=cu.frozen 4;have y5:Y3.cell? ⟨a1,5,U⟩=Z (D J 0):=(cu.cell 5).trans rfl;have lO:=cu.frozen 5;have y6:Y3.cell? ⟨a1,6,U⟩=Z (H U 0 0):=(cu.cell 6).trans rfl;have lM:=cu.frozen 6;have y7:Y3.cell? ⟨a1,7,U⟩=Z (G E):=(cu.cell 7).trans rfl;have lK:=cu.frozen 7;have SV:=qH (cu.store8 (D J kk) (D J ff) (D J gf) (D J gl) (G gfar) (D J gpc) (H B2 m2 d2) (G vov));have BV:=qH (zAc az bO.out (D J kk) (D J ff) (D J gf) (D J gl) (G gfar) (D J gpc) (H B2 m2 d2) (G vov));have RV:=qH ((hrow.store8 hlt2 (D J kk) (D J ff) (D J gf) (D J gl) (G gfar) (D J gpc) (H B2 m2 d2) (G vov)).mono (Nat.le_trans bO.out (Nat.le_of_lt hlt2)));have Fz:=HR.out.1;have HER:=qH Fz;clear hk2 al bh az cu hrow v0 v1 v2 jV Fz HR hlt2;go_wp2_with fail
  exact zAF rfl rfl rfl SV.out Tryz.underlying32 rfl (by kernel_rfl) rfl (by rw [HER.out,HO.out];exact ⟨B2,m2,d2,rfl,RV.out,fO.out,BV.out⟩)
 ·have HR:=qH (show rdE F.L F.re F.lo S=ZQ/\rdO F.L F.re F.lo S=o0 by unfold rdE rdO;rw [HE.out,qN h0,qN h0];exact ⟨rfl,rfl⟩);have SZ:=qH (hk2.store8 (D J 0) (D J 0) (D J 0) (D J 0) (G E) (D J 0) (H U 0 0) (G E));have BZ:=qH (zAc al bO.out (D J 0) (D J 0) (D J 0) (D J 0) (G E) (D J 0) (H U 0 0) (G E));have y0:Y2.cell? ⟨a1,0,U⟩=Z (D J 0):=(hk2.cell 0).trans rfl;have ki:=hk2.frozen 0;have y1:Y2.cell? ⟨a1,1,U⟩=Z (D J 0):=(hk2.cell 1).trans rfl;have kh:=hk2.frozen 1;have y2:Y2.cell? ⟨a1,2,U⟩=Z (D J 0):=(hk2.cell 2).trans rfl;have lT:=hk2.frozen 2;have y3:Y2.cell? ⟨a1,3,U⟩=Z (D J 0):=(hk2.cell 3).trans rfl;have lS:=hk2.frozen 3;have y4:Y2.cell? ⟨a1,4,U⟩=Z (G E):=(hk2.cell 4).trans rfl;have lQ:=hk2.frozen 4;have y5:Y2.cell? ⟨a1,5,U⟩=Z (D J 0):=(hk2.cell 5).trans rfl;have lO:=hk2.frozen 5;have y6:Y2.cell? ⟨a1,6,U⟩=Z (H U 0 0):=(hk2.cell 6).trans rfl;have lM:=hk2.frozen 6;have y7:Y2.cell? ⟨a1,7,U⟩=Z (G E):=(hk2.cell 7).trans rfl;have lK:=hk2.frozen 7;rcases hcs.resolve_left h0 with rfl | rfl
  all_goals clear hk2 al bt h0 hcs
  all_goals go_wp2_with fail
  all_goals exact zAF rfl rfl rfl SZ.out Tryz.underlying32 rfl (by kernel_rfl) rfl (by rw [HR.out.1,HR.out.2];exact ⟨U,0,0,rfl,Row.none_ _ _ _,rfl,BZ.out⟩)
theorem zPS {L:List Fg} (hL:L.length<=17592186043904) {n:Nop} (h:okN n):OgOk (oOf L n)/\∀x∈(oOf L n).path,SgOk x.s:=by
 have hx:∀f:Fg,(zAN L f:Int)<=17592186043904:=fun f=>by have:=zDF (f:=f) (L:=L);omega
 have hs:∀x:Nst,zCh x->SgOk (sOf L x):=fun x th=>by
  obtain ⟨_,h1,h2,h3,h4⟩:=th;have:=hx x.f;exact ⟨⟨by simp only [sOf];omega,by simp only [sOf];omega⟩,⟨by simp only [sOf];omega,by simp only [sOf];omega⟩,⟨by simp only [sOf];omega,by simp only [sOf];omega⟩⟩
 have up:SgOk s0:=⟨⟨by simp [s0],by simp [s0]⟩,⟨by simp [s0],by simp [s0]⟩,⟨by simp [s0],by simp [s0]⟩⟩;obtain ⟨h1,h2⟩:=h;obtain ⟨k,f,fr,path,over⟩:=n;have hf:=hx f;unfold zGt at h2;simp only at h1 h2;have wn:∀x∈(List.map (pOf L) ([]:List (Nst×Bool))),SgOk x.s:=fun x hx=>by simp at hx
 rcases h2 with ⟨e,rfl,rfl,rfl⟩ | ⟨e,rfl,rfl⟩ | ⟨e,⟨x,rfl,th⟩,hp,rfl⟩ | ⟨e,⟨x,rfl,th⟩,rfl⟩ | ⟨e,⟨g,rfl,hg⟩,rfl⟩
 ·exact ⟨⟨⟨by simp only [oOf];omega,by simp only [oOf];omega⟩,⟨by simp only [oOf];omega,by simp only [oOf];omega⟩,up⟩,wn⟩
 ·exact ⟨⟨⟨by simp only [oOf];omega,by simp only [oOf];omega⟩,⟨by simp only [oOf];omega,by simp only [oOf];omega⟩,up⟩,wn⟩
 ·refine ⟨⟨⟨by simp only [oOf];omega,by simp only [oOf];omega⟩,⟨by simp only [oOf];omega,by simp only [oOf];omega⟩,hs x th⟩,fun y hy=>?_⟩;obtain ⟨z,hz,rfl⟩:=List.mem_map.1 hy;exact hs z.1 (hp z hz)
 ·exact ⟨⟨⟨by simp only [oOf];omega,by simp only [oOf];omega⟩,⟨by simp only [oOf];omega,by simp only [oOf];omega⟩,hs x th⟩,wn⟩
 ·have hgo:zCh ⟨g,0,E,0⟩:=⟨hg,by simp,by simp,by simp,by simp⟩;exact ⟨⟨⟨by simp only [oOf];omega,by simp only [oOf];omega⟩,⟨by simp only [oOf];omega,by simp only [oOf];omega⟩,hs _ hgo⟩,wn⟩
theorem zLW:OgOk o0/\∀x∈o0.path,SgOk x.s :=
 ⟨⟨⟨by simp [o0],by simp [o0]⟩,⟨by simp [o0],by simp [o0]⟩,⟨⟨by simp [o0,s0],by simp [o0,s0]⟩,⟨by simp [o0,s0],by simp [o0,s0]⟩,⟨by simp [o0,s0],by simp [o0,s0]⟩⟩⟩,fun x hx=>by simp [o0] at hx⟩
theorem zPT {L:List Fg} {S:List UInt8} (h:zSe L S=E):∃n,okN n/\S=zBY n/\(opR L ⟨zBw S,E,E⟩).1=oOf L n/\zWl L S=zAy L n:=by
 unfold zSe at h;simp only [Bool.or_eq_false_iff,Bool.not_eq_false',List.isEmpty_iff] at h;obtain ⟨n,h1,h2,h3,h4⟩:=zRX h.1 h.2;exact ⟨n,h1,zJp h2,h3,h4⟩
theorem zWK (L:List Fg) {n:Nop} (h:okN n):zSe L (zBY n)=E/\(opR L ⟨zBw (zBY n),E,E⟩).1=oOf L n/\zWl L (zBY n)=zAy L n:=by
 unfold zSe zWl;rw [zDc,zYh L h];exact ⟨rfl,rfl,rfl⟩
theorem zEn (L:List Fg) {n:Nop} (h:okN n):zDt L (zBY n)=(if zAy L n then 8 else 0)/\zEL L (zBY n)=(if zAy L n then o0 else oOf L n):=by
 obtain ⟨h1,h2,h3⟩:=zWK L h;have he:zDt L (zBY n)=(if zAy L n then 8 else 0):=by unfold zDt;rw [h1,h3];rfl
 refine ⟨he,?_⟩;unfold zEL;rw [he,h2]
 cases zAy L n<;>rfl
theorem zIG (L:List Fg) {S:List UInt8} (h:∀n,okN n->S≠zBY n):zDt L S=6/\zEL L S=o0:=by
 have hb:zSe L S=Q:=by
  cases e:zSe L S with
  | true=>rfl
  | false =>
   obtain ⟨n,h1,h2,_⟩:=zPT e;exact absurd h2 (h n h1)
 have he:zDt L S=6:=by unfold zDt;rw [hb];rfl
 exact ⟨he,by unfold zEL;rw [he];rfl⟩
theorem zPU {L:List Fg} (hL:L.length<=17592186043904) (S:List UInt8):OgOk (zEL L S)/\∀x∈(zEL L S).path,SgOk x.s:=by
 by_cases h:∃n,okN n/\S=zBY n
 ·obtain ⟨n,h1,rfl⟩:=h;rw [(zEn L h1).2]
  cases zAy L n with
  | true=>exact zLW
  | false=>exact zPS hL h1
 ·rw [(zIG L fun n h1 h2=>h ⟨n,h1,h2⟩).2];exact zLW
noncomputable def zAO (L:List Fg):List (List UInt8)->List Og->List Og×Nat×Int
 | [],ZM=>(ZM,ZM.length,0)
 | [p],ZM=>if p=[] then (ZM,ZM.length,0) else ([],ZM.length,6)
 | p :: q :: r,ZM=>if zDt L p=0 then zAO L (q :: r) (ZM++[zEL L p]) else ([],ZM.length,zDt L p)
theorem zJA {c:UInt8}:∀{R:List UInt8},c∈R->∃h r,R=h++c :: r/\c ∉ h
 | [],hc=>by simp at hc
 | x :: R,hc=>by
  by_cases e:x=c
  ·exact ⟨[],R,by rw [e];rfl,by simp⟩
  ·have hR:c∈R:=by
    rcases List.mem_cons.1 hc with h | h
    ·exact absurd h.symm e
    ·exact h
   obtain ⟨h,r,rfl,hh⟩:=zJA hR
   exact ⟨x :: h,r,rfl,fun hm=>by
    rcases List.mem_cons.1 hm with h1 | h1
    ·exact e h1.symm
    ·exact hh h1⟩
theorem zPV (L:List Fg) (ZM:List Og):zAO L (zAI 10 []) ZM=(ZM,ZM.length,0):=rfl
theorem zNW (L:List Fg) {R:List UInt8} (h:(10:UInt8) ∉ R) (h0:R≠[]) (ZM:List Og):zAO L (zAI 10 R) ZM=([],ZM.length,6):=by
 rw [zDp h,zAO,qN h0]
theorem zNX (L:List Fg) {h r:List UInt8} (hc:(10:UInt8) ∉ h) (ZM:List Og):zAO L (zAI 10 (h++10 :: r)) ZM=if zDt L h=0 then zAO L (zAI 10 r) (ZM++[zEL L h]) else ([],ZM.length,zDt L h):=by
 rw [zCt hc]
 cases e:zAI 10 r with
 | nil=>exact absurd e (zFS 10 r)
 | cons q s=>rw [zAO]
structure OpsOwn (w:ZY) (base:Nat) (A:Option Addr) (n c:Nat) (Es:List Oe):Prop where
 row:Row w base 8 A n c (Es.flatMap zUv)
 ok:∀e∈Es,OgOk e.o/\Stps w e.A e.n e.o.path/\e.n<=e.c/\∀k,blk e.A=Z k->k < w.heap.size/\blk A≠Z k
section
variable {w w':ZY} {base:Nat} {A:Option Addr} {n c:Nat} {Es:List Oe}
theorem OpsOwn.none_ (w:ZY) (base:Nat):OpsOwn w base U 0 0 []:=⟨Row.none_ _ _ _,by simp⟩
theorem OpsOwn.below (h:OpsOwn w base A n c Es) (hb:ZZ w.heap.size w w'):OpsOwn w' base A n c Es :=
 ⟨h.row.below hb,fun e he=>by obtain ⟨h1,h2,h3,h4⟩:=h.ok e he;exact ⟨h1,h2.below hb,h3,fun k hk=>⟨Nat.lt_of_lt_of_le (h4 k hk).1 hb.size,(h4 k hk).2⟩⟩⟩
theorem OpsOwn.mono {base':Nat} (h:OpsOwn w base A n c Es) (hb:base'<=base):OpsOwn w base' A n c Es:=⟨h.row.mono hb,h.ok⟩
theorem Stps.kept {B:Option Addr} {m:Nat} {P:List Sp} {row:Option Nat} (h:Stps w B m P) (hg:w.grownBy w' row) (hne:∀k,blk B=Z k->row≠Z k):Stps w' B m P:=by
 refine ⟨⟨h.1.1,h.1.2.1,fun h0=>?_⟩,h.2⟩;obtain ⟨g,o,e,hb,hc⟩:=h.1.2.2 h0;subst e;refine ⟨g,o,rfl,Nat.lt_of_lt_of_le hb hg.size,fun j x hx q v hv=>?_⟩;rw [World.cell?_of_block (w:=w) (w':=w') (hg.block g hb (fun e=>hne g rfl e.symm))];exact hc j x hx q v hv
theorem OpsOwn.push {A':Option Addr} {N c':Nat} (h:OpsOwn w base A n c Es) (e:Oe) (he:OgOk e.o/\Stps w e.A e.n e.o.path/\e.n<=e.c/\∀k,blk e.A=Z k->k < w.heap.size/\blk A≠Z k)
  (hr:Row w' base 8 A' N c' ((Es++[e]).flatMap zUv)) (hg:w.grownBy w' (blk A)) (hl:∀k,blk A'=Z k->blk A=Z k∨w.heap.size<=k):OpsOwn w' base A' N c' (Es++[e]):=by
 refine ⟨hr,fun x hx=>?_⟩;have oX:OgOk x.o/\Stps w x.A x.n x.o.path/\x.n<=x.c/\∀k,blk x.A=Z k->k < w.heap.size/\blk A≠Z k:=by
  rcases List.mem_append.1 hx with h1 | h1
  ·exact h.ok x h1
  ·rw [List.mem_singleton.1 h1];exact he
 obtain ⟨h1,h2,h3,h4⟩:=oX;refine ⟨h1,h2.kept hg (fun k hk=>(h4 k hk).2),h3,fun k hk=>⟨Nat.lt_of_lt_of_le (h4 k hk).1 hg.size,fun e2=>?_⟩⟩;rcases hl k e2 with h5 | h5
 ·exact (h4 k hk).2 h5
 ·have:=(h4 k hk).1;omega
theorem OpsOwn.oprs (h:OpsOwn w base A n c Es) (hn:n<=1000000):Oprs w A n Es :=
 ⟨h.row.els (fun _=>rfl) (by omega) (by omega),fun e he=>by obtain ⟨h1,h2,h3,_⟩:=h.ok e he;exact ⟨h1,h2,h3⟩⟩
end
theorem zSf {w:ZY} {ops:Array Oper} {rest:List Oper} {o:Oper} {a:Act} {ZP:Exit->Act->ZY->Prop} (hgd:o.guard=U) (s x:Operand)
  (ho:o.op=.call { callee:=.builtin .append,args:=#[s,x],argTypes:=#[38,38] })
  {base:Nat} {A:Option Addr} {n c:Nat} {Es:List Oe} (hst:Row w base 8 A n c (Es.flatMap zUv)) (y:Oe)
  (hs:a.eval s=H A n c) (hx:a.eval x=H (Z ⟨w.heap.size,0,U⟩) 1 1) (N:Nat) (hN:n+1=N) (hn:N<=1000000) (hbase:base<=w.heap.size)
  (h:∀A' c' w',Row w' base 8 A' N c' ((Es++[y]).flatMap zUv)->w.grownBy w' (blk A)->(∀k,blk A'=Z k->blk A=Z k∨w.heap.size<=k)->wpList ZX ops ZP rest (a.put o.dst (H A' N c')) w') :
  wpList ZX ops ZP (o :: rest) a (w.alloc (.cells #[D J y.o.kind,D J y.o.f,D J y.o.fr.f,D J y.o.fr.l,G y.o.fr.far,D J y.o.fr.pc,H y.A y.n y.c,G y.o.over] 32)):=by
 obtain ⟨i0,hi,cD,bu,cM⟩:=info_parts zWG;have hbl:=(M w.heap.size w).alloc (O _) (.cells #[D J y.o.kind,D J y.o.f,D J y.o.fr.f,D J y.o.fr.l,G y.o.fr.far,D J y.o.fr.pc,H y.A y.n y.c,G y.o.over] 32);have cS:=hst.below hbl
 refine zRt hgd s x 38 ho 32 i0 _ 8 80 Tryz.underlying38 hi cD bu cM rfl (by decide) cS (Src.new (m:=1) (cs:=zUv y) rfl)
  (by intro u hu;simp [zUv] at hu;rcases hu with rfl | rfl | rfl | rfl | rfl | rfl | rfl | rfl<;>rfl) hs hx N hN (by unfold maxLen;omega) (by omega) (by simp;omega) ?_
 intro A' c' w' h1 h2 h3 _;refine h A' c' w' (by rw [List.flatMap_append];simpa using h1) ?_ (fun k hk=>?_)
 ·exact zAb (zAA hbl) h2
 ·rcases h3 k hk with e | e
  ·exact .inl e
  ·exact .inr (by simp at e;omega)
theorem zSg (s:List UInt8) (hs:s.length<=100000) (w:ZY) (ht:Tabs w) :
  Calls ZX 62 #[W (bA s),W ⟨#[10]⟩] w fun e w'=>e=.returned (.tuple #[W (bA (Lib.cut s [10]).1),W (bA (Lib.cut s [10]).2.1),G (Lib.cut s [10]).2.2])/\ZZ w.heap.size w w':=by
 obtain ⟨m,hm⟩:=ht.most;have h:=Tryz.strings_Cut (bA s) (bA [10]) m w (by rw [zAH];omega) hm;rw [zDG,zDG] at h;refine h.mono ?_;rintro e w' ⟨rfl,n,rfl⟩;exact ⟨rfl,zAg (M _ _) n⟩
def zHC (w0:ZY) (ZM:List Og) (n er:Int) (e:Ending) (w':ZY):Prop :=
 ∃B m d Es,e=.returned (.tuple #[H B m d,D J n,D J er])/\List.map (fun x:Oe=>x.o) Es=ZM/\m<=1000000/\OpsOwn w' w0.heap.size B m d Es/\ZZ w0.heap.size w0 w'
def AL:List Fg:=(List.range 9).flatMap fun p:Nat=>(List.range 7).flatMap fun d:Nat=>[⟨(p:Int)+1,E,(d:Int)⟩,⟨(p:Int)+1,Q,(d:Int)⟩]
theorem zHD:AL.length=126:=by decide +kernel
theorem zLX:GoodL AL:=by
 have h:(List.range 126).all (zDj AL)=Q:=by decide +kernel
 intro i hi;rw [zHD] at hi;exact List.all_eq_true.1 h i (List.mem_range.2 hi)
theorem zWL {f:Fg} (h:zAn f=Q):f∈AL:=by
 obtain ⟨h1,h2,h3,h4⟩:=zAv.1 h;obtain ⟨p,r,d⟩:=f;simp only at h1 h2 h3 h4;unfold AL;refine List.mem_flatMap.2 ⟨(p-1).toNat,List.mem_range.2 (by omega),List.mem_flatMap.2 ⟨d.toNat,List.mem_range.2 (by omega),?_⟩⟩;rw [show (((p-1).toNat:Nat):Int)+1=p by omega,show ((d.toNat:Nat):Int)=d by omega]
 cases r<;>simp
theorem zPW {f:Fg} (h:zAn f=Q):zAN AL f≠0:=fun e=>by
 obtain ⟨j,hj⟩:=List.getElem?_of_mem (zWL h);exact zKc e j hj
theorem zLY {f:Fg} (h:zAn f=Q):zBc AL f=E:=by unfold zBc;simpa using zPW h
theorem okN.all {n:Nop} (h:okN n):zAn n.f=Q/\(∀y∈n.path,zAn y.1.f=Q)/\∀x,n.fr=Z x->zAn x.f=Q:=by
 refine ⟨h.1,?_,?_⟩
 ·intro y hy;rcases h.2 with ⟨_,_,h,_⟩ | ⟨_,_,h⟩ | ⟨_,_,h,_⟩ | ⟨_,_,h⟩ | ⟨_,_,h⟩
  ·rw [h] at hy;simp at hy
  ·rw [h] at hy;simp at hy
  ·exact (h y hy).1
  ·rw [h] at hy;simp at hy
  ·rw [h] at hy;simp at hy
 ·intro x hx;rcases h.2 with ⟨_,h,_⟩ | ⟨_,h,_⟩ | ⟨_,⟨y,h,hy⟩,_⟩ | ⟨_,⟨y,h,hy⟩,_⟩ | ⟨_,⟨g,h,hg⟩,_⟩
  ·rw [h] at hx;cases hx
  ·rw [h] at hx;cases hx
  ·rw [h] at hx;injection hx with hx;rw [<-hx];exact hy.1
  ·rw [h] at hx;injection hx with hx;rw [<-hx];exact hy.1
  ·rw [h] at hx;injection hx with hx;rw [<-hx];exact hg
theorem zPX {n:Nop} (h:okN n):zAy AL n=E:=by
 obtain ⟨h1,h2,h3⟩:=h.all;unfold zAy;have hp:zAV AL n.path=E:=by
  unfold zAV;rw [List.any_eq_false];intro y hy;rw [zLY (h2 y hy)];simp
 rw [zLY h1,hp]
 cases hf:n.fr with
 | none=>rfl
 | some x=>simp only [zLY (h3 x hf)];rfl
noncomputable abbrev fnA (S:List UInt8):Nat:=zDA AL S
def zJB (S:List UInt8):Int:=(zAs S).1
def loF (T:List (List UInt8)):Int×Nat:=if 4<=T.length/\xa T 2=zBX then (zJB (xa T 3),4) else (0,2)
def piF (T:List (List UInt8)) (n:Nat):Int×Nat:=if n+2<=T.length/\xa T n=zBd then (zJB (xa T (n+1)),n+2) else (0,n)
noncomputable def zGu (T:List (List UInt8)):Sg×Nat :=
 if T.length < 2∨(xa T 1≠zRS/\xa T 1≠zXS) then (s0,0)
 else (⟨fnA (xa T 0),(loF T).1,faT (xa T 1),(piF T (loF T).2).1⟩,(piF T (loF T).2).2)
def zEV:List (List UInt8)->List (List UInt8)
 | []=>[]
 | w :: r=>if w.getLast? = Z 44 then [w.dropLast] else w :: zEV r
noncomputable def zGO:Nat->List Sp->List (List UInt8)->Option (List Sp×Sg)
 | 0,_,_=>U
 | n+1,P,T=>if T=[] then Z (P,s0) else if xa T 0=zAz then Z (P,(zGu T.tail).1)
  else if (zGu (zEV T.tail)).2=0 then U
  else zGO n (P++[⟨(zGu (zEV T.tail)).1,ovT (xa T 0)⟩]) (T.drop ((zGu (zEV T.tail)).2+1))
noncomputable def zOP (f:Int) (T:List (List UInt8)):Og:=match zGO (T.length+1) [] T with | some (P,s)=>⟨3,f,s,P,E⟩ | none=>o0
noncomputable def zJC (T:List (List UInt8)):Og :=
 if T.length < 2 then o0
 else if xa T 0=zAu 1 then ⟨1,fnA (xa T 1),s0,[],E⟩
 else if xa T 0=zAu 2 then ⟨2,fnA (xa T 1),s0,[],E⟩
 else if xa T 0=zAu 8 then ⟨8,fnA (xa T 1),s0,[],E⟩
 else if xa T 0=zAu 4 then ⟨4,fnA (xa T 1),s0,[],ovT (xa T (T.length-1))⟩
 else if xa T 0=zAu 5 then ⟨5,fnA (xa T 1),if 3 < T.length then (zGu (T.drop 3)).1 else s0,[],ovT (xa T (T.length-1))⟩
 else if xa T 0=zAu 6 then ⟨6,fnA (xa T 1),⟨if 3 < T.length then fnA (xa T 3) else 0,0,E,0⟩,[],ovT (xa T (T.length-1))⟩
 else if xa T 0=zAu 7 then ⟨7,fnA (xa T 1),⟨if 3 < T.length then fnA (xa T 3) else 0,0,E,0⟩,[],ovT (xa T (T.length-1))⟩
 else if xa T 0=zAu 3 then zOP (fnA (xa T 1)) (T.drop 2)
 else ⟨0,fnA (xa T 1),s0,[],ovT (xa T (T.length-1))⟩
noncomputable def zLl (S:List UInt8):Og:=zJC (zAI 32 S)
theorem zFX {f:Fg} (h:zAn f=Q):fnA (zAj f)=zAN AL f:=by unfold fnA zDA;rw [zCA h rfl]
theorem zGP {n:Int} (h0:n≠0) (h1:0<=n) (h2:n<=999999999):zJB (Lib.itoa n)=n:=by unfold zJB;rw [zFU (by omega) h2]
theorem zPY {x:Nst} (h:zCh x) (R:List (List UInt8)) (hR:R.length<=1):zGu (plT x++R)=(sOf AL x,(plT x).length):=by
 obtain ⟨h1,h2,h3,h4,h5⟩:=h;obtain ⟨f,l,far,pc⟩:=x;simp only at h1 h2 h3 h4 h5;have hR4:¬(4<=R.length+2):=by omega
 have hl0:zBX≠zBd:=by decide
 have wn:zBd≠zBX:=by decide
 have hs:zBH far=zRS∨zBH far=zXS:=by cases far<;>simp [zBH]
 have hf:faT (zBH far)=far:=(zHr far).1;have hn:=zFX h1;unfold zGu loF piF plT sOf;by_cases e1:l=0<;>by_cases e2:pc=0
 ·subst e1;subst e2
  have q1:¬(R.length+1+1 < 2):=by omega
  have q2:¬(4<=R.length+1+1):=by omega
  have q3:¬(2+2<=R.length+1+1):=by omega
  simp only [zFj,if_true,List.append_nil,List.cons_append,List.nil_append,List.length_cons,List.length_nil,xa,List.getElem?_cons_zero,List.getElem?_cons_succ,Option.getD_some,q1,q2,false_or,false_and,if_false,hf,hn];rcases hs with e | e<;>simp [e]
 ·subst e1;have hi:=zGP e2 h4 h5;have q1:¬(R.length+1+1+1+1 < 2):=by omega
  have q2:4<=R.length+1+1+1+1:=by omega
  have q3:2+2<=R.length+1+1+1+1:=by omega
  simp only [zFj,if_true,qN e2,List.append_nil,List.cons_append,List.nil_append,List.length_cons,List.length_nil,xa,List.getElem?_cons_zero,List.getElem?_cons_succ,Option.getD_some,q1,q2,false_or,true_and,wn,if_false,hf,hn,hi];rcases hs with e | e<;>simp [e]
 ·subst e2;have hi:=zGP e1 h2 h3;have q1:¬(R.length+1+1+1+1 < 2):=by omega
  have q2:4<=R.length+1+1+1+1:=by omega
  have q3:¬(4+2<=R.length+1+1+1+1):=by omega
  simp only [zFj,if_true,qN e1,List.append_nil,List.cons_append,List.nil_append,List.length_cons,List.length_nil,xa,List.getElem?_cons_zero,List.getElem?_cons_succ,Option.getD_some,q1,q2,q3,false_or,true_and,false_and,if_false,hf,hn,hi];rcases hs with e | e<;>simp [e]
 ·have hi:=zGP e1 h2 h3;have hj:=zGP e2 h4 h5;have q1:¬(R.length+1+1+1+1+1+1 < 2):=by omega
  have q2:4<=R.length+1+1+1+1+1+1:=by omega
  have q3:4+2<=R.length+1+1+1+1+1+1:=by omega
  simp only [zFj,if_true,qN e1,qN e2,List.cons_append,List.nil_append,List.length_cons,List.length_nil,xa,List.getElem?_cons_zero,List.getElem?_cons_succ,Option.getD_some,q1,q2,q3,false_or,true_and,hf,hn,hi,hj];rcases hs with e | e<;>simp [e]
theorem zPZ:∀{A:List (List UInt8)} (R:List (List UInt8)),fineT A->A≠[]->zEV (tag A++R)=A
 | [],_,_,h=>absurd rfl h
 | [x],R,_,_=>by simp [tag,zEV]
 | x :: y :: r,R,h,_=>by
  have h2:fineT (y :: r):=fun S hS=>h S (List.mem_cons_of_mem _ hS)
  have hx:x.getLast?≠Z 44:=fun e=>(h x (List.mem_cons_self ..)).no44 (List.mem_of_getLast? e)
  rw [tag,List.cons_append,zEV,qN hx,zPZ R h2 (by simp)]
theorem zQa:∀A:List (List UInt8),(tag A).length=A.length
 | []=>rfl
 | [x]=>rfl
 | x :: y :: r=>by rw [tag,List.length_cons,zQa (y :: r)];rfl
theorem zWM (x:Nst):(plT x).length≠0:=by simp [plT]
theorem zTM {x:Nst} (hx:zCh x):∀(ZP:List (Nst×Bool)) (n:Nat) (P:List Sp),ZP.length < n->(∀y∈ZP,zCh y.1) ->
  zGO n P (ZP.flatMap stW++zAz :: plT x)=Z (P++ZP.map (pOf AL),sOf AL x)
 | _,0,_,h,_=>absurd h (by omega)
 | [],n+1,P,_,_=>by
  have:=zPY hx [] (by simp);rw [List.append_nil] at this;rw [zGO,qN (by simp),qP (by rfl)];simp [this]
 | y :: ZP,n+1,P,hn,hQ=>by
  have hy:=hQ y (List.mem_cons_self ..);have h1:=zPY hy [] (by simp);rw [List.append_nil] at h1;have hT:(y :: ZP).flatMap stW++zAz :: plT x=zAx y.2 :: (tag (plT y.1)++(ZP.flatMap stW++zAz :: plT x)):=by simp [stW]
  have hu:=zPZ (ZP.flatMap stW++zAz :: plT x) (zHo y.1) (zUN y.1);have h0:xa (zAx y.2 :: (tag (plT y.1)++(ZP.flatMap stW++zAz :: plT x))) 0=zAx y.2:=rfl;have hof:zAx y.2≠zAz:=by cases y.2<;>decide
  have hd:(zAx y.2 :: (tag (plT y.1)++(ZP.flatMap stW++zAz :: plT x))).drop ((plT y.1).length+1)=ZP.flatMap stW++zAz :: plT x:=by
   rw [List.drop_succ_cons,<-zQa,List.drop_left]
  rw [hT,zGO,qN (by simp),h0,qN hof,List.tail_cons,hu,h1];simp only;rw [qN (zWM y.1),hd,(zLN y.2).1,zTM hx ZP n _ (by simp at hn;omega) (fun z hz=>hQ z (List.mem_cons_of_mem _ hz))];simp [pOf]
theorem zSh {a b:Int} (ha:1<=a) (ha8:a<=8) (hb:1<=b) (cz:b<=8) (h:zAu a=zAu b):a=b:=by
 have h1:=zCC ha ha8;rw [h,zCC hb cz] at h1;exact h1.symm
theorem zUY (ZP:List (Nst×Bool)):ZP.length<=(ZP.flatMap stW).length:=by
 induction ZP with
 | nil=>simp
 | cons x ZP ih =>
  have:1<=(stW x).length:=by simp [stW]
  rw [List.flatMap_cons,List.length_append,List.length_cons];omega
theorem zTN {n:Nop} (h:okN n):zLl (zBY n)=oOf AL n:=by
 have hs:zAI 32 (zBY n)=zRT n:=by
  unfold zBY;exact zDK (by simp [zRT]) (zMN n)
 obtain ⟨hf,hk⟩:=h;have hfn:=zFX hf;unfold zLl;rw [hs];obtain ⟨k,f,fr,path,over⟩:=n;unfold zGt at hk;simp only at hf hk hfn;have ho:=(zLN over).1;have oe:∀R,xa (zAu k :: zAj f :: R) 0=zAu k:=fun _=>rfl
 have gV:∀R,xa (zAu k :: zAj f :: R) 1=zAj f:=fun _=>rfl
 have hl2:∀R,¬(zAu k :: zAj f :: R).length < 2:=fun R=>by simp
 have hv:∀{a:Int},1<=a->a<=8->1<=k->k<=8->a≠k->zAu k≠zAu a:=fun h1 h2 h3 h4 h5 e=>h5 (zSh h1 h2 h3 h4 e.symm)
 unfold zJC zRT tlW;simp only;rcases hk with ⟨e,h1,h2,h3⟩ | ⟨e,h1,h2⟩ | ⟨e,⟨x,hx,hxo⟩,hp,h3⟩ | ⟨e,⟨x,hx,hxo⟩,hp⟩ | ⟨e,⟨g,hx,hg⟩,hp⟩
 ·subst h1;subst h2;subst h3
  rcases e with rfl | rfl | rfl<;>simp only [qN (show ¬(1:Int)=4 by omega),qN (show ¬(1:Int)=3 by omega),qN (show ¬(1:Int)=5 by omega),qN (show ¬(1:Int)=6 by omega),qN (show ¬(1:Int)=7 by omega),
   qN (show ¬(2:Int)=4 by omega),qN (show ¬(2:Int)=3 by omega),qN (show ¬(2:Int)=5 by omega),qN (show ¬(2:Int)=6 by omega),qN (show ¬(2:Int)=7 by omega),
   qN (show ¬(8:Int)=4 by omega),qN (show ¬(8:Int)=3 by omega),qN (show ¬(8:Int)=5 by omega),qN (show ¬(8:Int)=6 by omega),qN (show ¬(8:Int)=7 by omega)]
  ·rw [qN (hl2 _),oe,qP rfl,gV,hfn];rfl
  ·rw [qN (hl2 _),oe,qN (hv (by omega) (by omega) (by omega) (by omega) (by omega)),qP rfl,gV,hfn];rfl
  ·rw [qN (hl2 _),oe,qN (hv (by omega) (by omega) (by omega) (by omega) (by omega)),qN (hv (by omega) (by omega) (by omega) (by omega) (by omega)),qP rfl,gV,hfn];rfl
 ·subst e;subst h1;subst h2
  rw [qN (hl2 _),oe,qN (hv (by omega) (by omega) (by omega) (by omega) (by omega)),qN (hv (by omega) (by omega) (by omega) (by omega) (by omega)),qN (hv (by omega) (by omega) (by omega) (by omega) (by omega)),qP rfl,gV,hfn];simp only [if_true];rw [show xa [zAu 4,zAj f,zAx over] ([zAu 4,zAj f,zAx over].length-1)=zAx over from rfl,ho];rfl
 ·subst e;subst h3;subst hx
  rw [qN (hl2 _),oe,qN (hv (by omega) (by omega) (by omega) (by omega) (by omega)),qN (hv (by omega) (by omega) (by omega) (by omega) (by omega)),qN (hv (by omega) (by omega) (by omega) (by omega) (by omega)),qN (hv (by omega) (by omega) (by omega) (by omega) (by omega)),qN (hv (by omega) (by omega) (by omega) (by omega) (by omega)),qN (hv (by omega) (by omega) (by omega) (by omega) (by omega)),qN (hv (by omega) (by omega) (by omega) (by omega) (by omega)),qP rfl,gV,hfn];simp only [qN (show ¬(3:Int)=4 by omega),if_true,List.drop_succ_cons,List.drop_zero,frT];unfold zOP;rw [zTM hxo path _ [] (by have:=zUY path;simp only [List.length_append,List.length_cons];omega) hp];rfl
 ·subst e;subst hp;subst hx
  rw [qN (hl2 _),oe,qN (hv (by omega) (by omega) (by omega) (by omega) (by omega)),qN (hv (by omega) (by omega) (by omega) (by omega) (by omega)),qN (hv (by omega) (by omega) (by omega) (by omega) (by omega)),qN (hv (by omega) (by omega) (by omega) (by omega) (by omega)),qP rfl,gV,hfn];simp only [qN (show ¬(5:Int)=4 by omega),qN (show ¬(5:Int)=3 by omega),if_true,frT];have hl:xa (zAu 5 :: zAj f :: zAz :: (plT x++[zAx over])) ((zAu 5 :: zAj f :: zAz :: (plT x++[zAx over])).length-1)=zAx over:=by
   simp only [xa,List.length_cons,List.length_append,List.length_nil];rw [show (plT x).length+(0+1)+1+1+1-1=(plT x).length+3 by omega];simp
  rw [hl,ho,qP (by simp [plT]),show (zAu 5 :: zAj f :: zAz :: (plT x++[zAx over])).drop 3=plT x++[zAx over] from rfl,zPY hxo _ (by simp)];rfl
 ·subst hp;subst hx
  have hgn:=zFX hg;rcases e with rfl | rfl
  ·rw [qN (hl2 _),oe,qN (hv (by omega) (by omega) (by omega) (by omega) (by omega)),qN (hv (by omega) (by omega) (by omega) (by omega) (by omega)),qN (hv (by omega) (by omega) (by omega) (by omega) (by omega)),qN (hv (by omega) (by omega) (by omega) (by omega) (by omega)),qN (hv (by omega) (by omega) (by omega) (by omega) (by omega)),qP rfl,gV,hfn];simp only [qN (show ¬(6:Int)=4 by omega),qN (show ¬(6:Int)=3 by omega),qN (show ¬(6:Int)=5 by omega),if_true,frN];rw [show xa [zAu 6,zAj f,zAz,zAj g,zAx over] ([zAu 6,zAj f,zAz,zAj g,zAx over].length-1)=zAx over from rfl,ho,qP (by simp),show xa [zAu 6,zAj f,zAz,zAj g,zAx over] 3=zAj g from rfl,hgn];rfl
  ·rw [qN (hl2 _),oe,qN (hv (by omega) (by omega) (by omega) (by omega) (by omega)),qN (hv (by omega) (by omega) (by omega) (by omega) (by omega)),qN (hv (by omega) (by omega) (by omega) (by omega) (by omega)),qN (hv (by omega) (by omega) (by omega) (by omega) (by omega)),qN (hv (by omega) (by omega) (by omega) (by omega) (by omega)),qN (hv (by omega) (by omega) (by omega) (by omega) (by omega)),qP rfl,gV,hfn];simp only [qN (show ¬(7:Int)=4 by omega),qN (show ¬(7:Int)=3 by omega),qN (show ¬(7:Int)=5 by omega),qN (show ¬(7:Int)=6 by omega),if_true,frN];rw [show xa [zAu 7,zAj f,zDD,zAj g,zAx over] ([zAu 7,zAj f,zDD,zAj g,zAx over].length-1)=zAx over from rfl,ho,qP (by simp),show xa [zAu 7,zAj f,zDD,zAj g,zAx over] 3=zAj g from rfl,hgn];rfl
def plA (L:List Fg) (f:Int):Int:=(zAN L (fa AL (f-1).toNat):Int)
def zWN (L:List Fg) (s:Sg):Sg:=⟨plA L s.f,s.l,s.far,s.pc⟩
def zOQ (L:List Fg) (x:Sp):Sp:=⟨zWN L x.s,x.over⟩
def zRv (L:List Fg) (o:Og):Og:=⟨o.kind,plA L o.f,if 0 < o.fr.f then zWN L o.fr else o.fr,o.path.map (zOQ L),o.over⟩
def zQb (L:List Fg) (o:Og):Bool:=decide (0 < plA L o.f)&&(decide (¬0 < o.fr.f)||decide (0 < plA L o.fr.f))&&o.path.all fun x=>decide (0 < plA L x.s.f)
theorem zQc (L:List Fg) {f:Fg} (h:zAn f=Q):plA L (zAN AL f:Int)=(zAN L f:Int):=by unfold plA;rw [zHw (zPW h)]
theorem zQd (L:List Fg) {n:Nop} (h:okN n):zRv L (oOf AL n)=oOf L n/\zQb L (oOf AL n) = !zAy L n:=by
 obtain ⟨h1,h2,h3⟩:=h.all;have hpos:∀{f:Fg},decide (0 < (zAN L f:Int)) = !zBc L f:=fun {f}=>by
  unfold zBc;by_cases e:zAN L f=0
  ·rw [e];rfl
  ·rw [decide_eq_true (by omega:0 < (zAN L f:Int)),decide_eq_false e];rfl
 have hpm:((n.path.map (pOf AL)).map (zOQ L))=n.path.map (pOf L):=by
  rw [List.map_map];refine List.map_congr_left fun x hx=>?_
  simp only [Function.comp,pOf,zOQ,zWN,sOf,zQc L (h2 x hx)]
 have hpa:((n.path.map (pOf AL)).all fun x=>decide (0 < plA L x.s.f)) = !zAV L n.path:=by
  have key:∀ZP:List (Nst×Bool),(∀y∈ZP,zAn y.1.f=Q)->((ZP.map (pOf AL)).all fun x=>decide (0 < plA L x.s.f)) = !zAV L ZP:=by
   intro ZP
   induction ZP with
   | nil=>intro _;rfl
   | cons y ZP ih =>
    intro hQ;have h1:plA L (pOf AL y).s.f=(zAN L y.1.f:Int):=zQc L (hQ y (List.mem_cons_self ..));rw [List.map_cons,List.all_cons,ih (fun z hz=>hQ z (List.mem_cons_of_mem _ hz)),h1,hpos];unfold zAV;rw [List.any_cons,Bool.not_or]
  exact key _ h2
 have hf:=zQc L h1;obtain ⟨k,f,fr,path,over⟩:=n;simp only at hf hpm hpa h3;unfold zRv zQb oOf zAy;simp only [hf,hpm,hpa]
 cases fr with
 | none =>
  simp only [Option.map_none,Option.getD_none];refine ⟨by simp [s0],?_⟩;have hq:decide (¬0 < s0.f)=Q:=by decide
  rw [hq,hpos]
  cases zBc L f<;>cases zAV L path<;>rfl
 | some x =>
  have hx:=h3 x rfl;have h0:=zPW hx;simp only [Option.map_some,Option.getD_some];have hlt:0 < (sOf AL x).f:=by simp only [sOf];omega
  refine ⟨by rw [qP hlt];simp [zWN,sOf,zQc L hx],?_⟩;have hq:decide (¬0 < (sOf AL x).f)=E:=decide_eq_false (fun e=>e hlt);have hr:decide (0 < plA L (sOf AL x).f) = !zBc L x.f:=by
   have e:plA L (sOf AL x).f=(zAN L x.f:Int):=zQc L hx;rw [e];exact hpos
  rw [hq,hr,hpos]
  cases zBc L f<;>cases zAV L path<;>cases zBc L x.f<;>rfl
noncomputable def okB (S:List UInt8):Bool:=zAf 126 (zLl S)&&decide (zBg AL (zLl S)=S)
theorem zWO {n:Nop} (h:okN n):okB (zBY n)=Q:=by
 have hl:=zPX h;obtain ⟨h1,h2⟩:=zXT (L:=AL) h hl;unfold okB;rw [zTN h,<-zKG h1,h2];rw [zHD] at h1;rw [h1];simp
theorem zWP {S:List UInt8} (h:okB S=Q):∃n,okN n/\S=zBY n:=by
 unfold okB at h;simp only [Bool.and_eq_true,decide_eq_true_eq] at h;have h1:zAf AL.length (zLl S)=Q:=by rw [zHD];exact h.1
 exact ⟨nOf AL (zLl S),(zWE zLX h1).1,by rw [zKG h1];exact h.2.symm⟩
theorem zUZ (L:List Fg) {S:List UInt8} (h:okB S=E):zDt L S=6/\zEL L S=o0 :=
 zIG L fun n h1 h2=>by subst h2;rw [zWO h1] at h;cases h
theorem zSi (L:List Fg) {S:List UInt8} (h:okB S=Q):zDt L S=(if zQb L (zLl S) then 0 else 8)/\zEL L S=(if zQb L (zLl S) then zRv L (zLl S) else o0):=by
 obtain ⟨n,h1,rfl⟩:=zWP h;obtain ⟨a,b⟩:=zEn L h1;obtain ⟨c,d⟩:=zQd L h1;rw [zTN h1,a,b,c,d]
 cases zAy L n<;>exact ⟨rfl,rfl⟩
