/-
  Lemmas. Conditions: each one's own.
-/
import Derived.Test.YtlmdfmnbcndhoaaGreatDoorRt23
open Go.RowKit
set_option maxHeartbeats 12800000
set_option maxRecDepth 100000
open Option renaming none->U,some->Z
open Go renaming World->ZY
open Go.Value renaming bool->G,int->D,slice->H,string->W
open Go.RowKit renaming Below->ZZ
open Go.IntKind renaming i64->J
open Bool renaming false->E,true->Q
open Go.Proofs.Tryz renaming prog->ZX
open Go.RowKit.Below renaming refl->M
open Nat renaming le_refl->O
namespace Go.Proofs.YtlmdfmnbcndhoaaGreatDoor
theorem stepP {w:ZY} {ops:Array Oper} {o:Oper} {a:Act} {K:Act->ZY->Prop} {Q':Exit->Act->ZY->Prop} {ZQ:Prop} (hgd:o.guard=U) (s x:Operand)
  (ho:o.op=.call { callee:=.builtin .append,args:=#[s,x],argTypes:=#[30,30] })
  {base:Nat} {A:Option Addr} {n c:Nat} {P:List Sp} (y:Sp) (hs:a.eval s=H A n c) (hx:a.eval x=H (Z ⟨w.heap.size,0,U⟩) 1 1)
  (hst:Row w base 5 A n c (P.flatMap zCl)) (N:Nat) (hN:n+1=N) (hn:N<=1000000) (hbase:base<=w.heap.size)
  (h:∀A' c' w',Row w' base 5 A' N c' ((P++[y]).flatMap zCl)->ZZ base w w'->w.grownBy w' (blk A)->K (a.put o.dst (H A' N c')) w') :
  if Region.wanted o (yielded ops a.tmps)=Q then Oper.wp ZX o a (w.alloc (.cells #[D J y.s.f,D J y.s.l,G y.s.far,D J y.s.pc,G y.over] 86)) K Q' else ZQ:=by
 obtain ⟨i0,hi,cD,bu,cM⟩:=info_parts zKI;have hbl:=(M w.heap.size w).alloc (O _) (.cells #[D J y.s.f,D J y.s.l,G y.s.far,D J y.s.pc,G y.over] 86);have cS:=hst.below hbl
 refine zRG hgd s x 30 ho 86 i0 _ 5 40 Tryz.underlying30 hi cD bu cM rfl (by decide) cS (Src.new (m:=1) (cs:=zCl y) rfl)
  (by intro u hu;simp [zCl] at hu;rcases hu with rfl | rfl | rfl | rfl | rfl<;>rfl) hs hx N hN (by unfold maxLen;omega) (by omega) (by simp;omega) ?_
 intro A' c' w' h1 h2 _ _;refine h A' c' w' (by rw [List.flatMap_append];simpa using h1) ?_ (zAb (zDk hbl _) h2);exact ((M _ _).alloc hbase _).trans (cS.belowOf h2 (by simp;omega))
theorem zUh {w:ZY} {ops:Array Oper} {o:Oper} {a:Act} {K:Act->ZY->Prop} {Q':Exit->Act->ZY->Prop} {ZQ:Prop} (hgd:o.guard=U) (s x:Operand)
  (ho:o.op=.call { callee:=.builtin .append,args:=#[s,x],argTypes:=#[30,30] })
  {base g:Nat} {A:Option Addr} {n c:Nat} {P:List Sp} (y:Sp) (hs:a.eval s=H A n c) (hx:a.eval x=H (Z ⟨g,0,U⟩) 1 1)
  (hk:Blk w g 86 (zCl y).toArray) (hst:Row w base 5 A n c (P.flatMap zCl)) (N:Nat) (hN:n+1=N) (hn:N<=1000000) (hbase:base<=w.heap.size)
  (h:∀A' c' w',Row w' base 5 A' N c' ((P++[y]).flatMap zCl)->ZZ base w w'->w.grownBy w' (blk A)->K (a.put o.dst (H A' N c')) w') :
  if Region.wanted o (yielded ops a.tmps)=Q then Oper.wp ZX o a w K Q' else ZQ:=by
 obtain ⟨i0,hi,cD,bu,cM⟩:=info_parts zKI
 refine zRG hgd s x 30 ho 86 i0 _ 5 40 Tryz.underlying30 hi cD bu cM rfl (by decide) hst (m:=1) (news:=zCl y) ⟨rfl,fun _=>⟨⟨g,0,U⟩,rfl,hk.lt,fun j u hu=>?_⟩⟩
  (by intro u hu;simp [zCl] at hu;rcases hu with rfl | rfl | rfl | rfl | rfl<;>rfl) hs hx N hN (by unfold maxLen;omega) (by omega) hbase ?_
 ·rw [Addr.add_lit,Nat.zero_add,hk.cell,List.getElem?_toArray];exact hu
 ·intro A' c' w' h1 h2 _ _;exact h A' c' w' (by rw [List.flatMap_append];simpa using h1) (hst.belowOf h2 hbase) h2
theorem zXA (T:List (List UInt8)):(zGu T).2<=T.length:=by
 unfold zGu;split
 ·simp
 ·rename_i h;show (piF T (loF T).2).2<=_;have h4:(loF T).2<=T.length:=by unfold loF;split<;>simp only<;>omega
  unfold piF;split<;>simp only<;>omega
theorem zVQ (T:List (List UInt8)):(zEV T).length<=T.length:=by
 induction T with
 | nil=>simp [zEV]
 | cons x T ih =>
  rw [zEV];split
  ·simp
  ·simp;exact ih
theorem Row.words {w:ZY} {base:Nat} {A:Option Addr} {n c:Nat} {T:List (List UInt8)} (h:Row w base 1 A n c (T.map zDE)) {i:Nat} (hi:i<=n) :
  Row w base 1 (if c=i then A else A.map (·.add (i*1))) (n-i) (c-i) ((T.drop i).map zDE):=by
 have:=h.from_ hi;rw [show List.drop (i*1) (T.map zDE)=(T.drop i).map zDE by rw [Nat.mul_one,List.map_drop]] at this;exact this
theorem zCa {w:ZY} {base:Nat} {A:Option Addr} {n c:Nat} {T:List (List UInt8)} (h:Row w base 1 A n c (T.map zDE)) {i:Nat} (hi:i<=n) {v:Int} (hv:(i:Int)=v) :
  ∃A1,(∀wx,(Instr.slice 112 (H A n c) (Z (D J v)) U U).run ZX wx=.ok (H A1 (n-i) (c-i)) wx)/\Row w base 1 A1 (n-i) (c-i) ((T.drop i).map zDE):=by
 subst hv;refine ⟨_,fun wx=>?_,h.words hi⟩;rw [run_slice_l wx 112 A n c (by kernel_rfl) J (i:Int) (by omega) (by omega),show Tryz.prog.elem 112=9 from by kernel_rfl,Tryz.sizeOf9];simp [Result.andThen,sliced]
def OpG (w0:ZY) (o:Og) (e:Ending) (w':ZY):Prop:=∃B m d,e=.returned (opV o B m d)/\Row w' w0.heap.size 5 B m d (o.path.flatMap zCl)/\m=o.path.length/\ZZ w0.heap.size w0 w'
theorem zOy {T ZS:List (List UInt8)} (h:zEV T=ZS) {A:Option Addr} {n:Nat} (c:Nat) (w:ZY) (hA:Txts w A n T) (hn:n<=100001) (hw:∀p∈T,p.length<=100000):Calls ZX 151 #[H A n c] w (zDe w ZS):=by
 subst h;exact zLd A n c T w hA hn hw
theorem zER {T:List (List UInt8)} {s:Sg} {k:Nat} (h:zGu T=(s,k)) {A:Option Addr} {n:Nat} (c:Nat) (w:ZY) (hA:Txts w A n T):Calls ZX 100 #[H A n c] w fun e w'=>e=.returned (.tuple #[.agg #[D J s.f,D J s.l,G s.far,D J s.pc],D J (k:Int)])/\ZZ w.heap.size w w':=by
 have:=zJR A n c T w hA;rw [h] at this;exact this
theorem OpG.of {w0 w':ZY} {o:Og} {B:Option Addr} {m d:Nat} (hrow:Row w' w0.heap.size 5 B m d (o.path.flatMap zCl)) (hm:m=o.path.length) (hb:ZZ w0.heap.size w0 w') :
  OpG w0 o (.returned (opV o B m d)) w':=⟨B,m,d,rfl,hrow,hm,hb⟩
theorem zVR (n:Nat) (P:List Sp):zGO (n+1) P []=Z (P,s0):=by rw [zGO,qP rfl]
theorem zTf {T:List (List UInt8)} (n:Nat) (P:List Sp) (h:T≠[]) (h1:xa T 0=zAz):zGO (n+1) P T=Z (P,(zGu T.tail).1):=by rw [zGO,qN h,qP h1]
theorem zTg {T:List (List UInt8)} (n:Nat) (P:List Sp) (h:T≠[]) (h1:xa T 0≠zAz) {s:Sg} (h2:zGu (zEV T.tail)=(s,0)):zGO (n+1) P T=U:=by rw [zGO,qN h,qN h1,qP (by rw [h2])]
theorem zTh {T:List (List UInt8)} (n:Nat) (P:List Sp) (h:T≠[]) (h1:xa T 0≠zAz) {s:Sg} {k:Nat} (h2:zGu (zEV T.tail)=(s,k)) (h3:k≠0) :
  zGO (n+1) P T=zGO n (P++[⟨s,ovT (xa T 0)⟩]) (T.drop (k+1)):=by rw [zGO,qN h,qN h1,qN (by rw [h2];exact h3),h2]
theorem zUi {f:Int} {T:List (List UInt8)} {P:List Sp} {s:Sg} (h:zGO (T.length+1) [] T=Z (P,s)):zOP f T=⟨3,f,s,P,E⟩:=by unfold zOP;rw [h]
theorem zTi {f:Int} {T:List (List UInt8)} (h:zGO (T.length+1) [] T=U):zOP f T=o0:=by unfold zOP;rw [h]
def sliN:Value->Nat
 | H _ n _=>n
 | _=>0
theorem zJS (f:Int) (A:Option Addr) (n c:Nat) (T:List (List UInt8)) (w:ZY) (base:Nat) (hA:Row w base 1 A n c (T.map zDE)) (hn:n<=10000) (hw:∀p∈T,p.length<=100000) :
  Calls ZX 101 #[.agg #[D J 0,D J f,D J 0,D J 0,G E,D J 0,H U 0 0,G E],H A n c] w (OpG w (zOP f T)):=by
 have HA:=qH hA;have HW:=qH hw;have HB:=qH (M w.heap.size w);have hlen:T.length=n:=by have:=hA.len;simpa using this
 have bo:=qH hlen;obtain ⟨g,hg⟩:∃g,zOP f T=g:=⟨_,rfl⟩
 have HG:=qH hg;rw [hg];clear hA hw hlen hg;go_enter Tryz.func101,Tryz.ntmps101;have hba:ZZ w.heap.size w ((w.alloc (.cells #[D J 0,D J f,D J 0,D J 0,G E,D J 0,H U 0 0,G E] 32)).alloc (.cells #[D J 0,D J 0,D J 0,D J 0,G E,D J 0,H U 0 0,G E] 32)):=((M _ _).alloc (O _) _).alloc (by simp) _;have ab:Blk ((w.alloc (.cells #[D J 0,D J f,D J 0,D J 0,G E,D J 0,H U 0 0,G E] 32)).alloc (.cells #[D J 0,D J 0,D J 0,D J 0,G E,D J 0,H U 0 0,G E] 32)) w.heap.size 32 #[D J 0,D J f,D J 0,D J 0,G E,D J 0,H U 0 0,G E]:=(Blk.new w _ _).alloc _;have aa:Blk ((w.alloc (.cells #[D J 0,D J f,D J 0,D J 0,G E,D J 0,H U 0 0,G E] 32)).alloc (.cells #[D J 0,D J 0,D J 0,D J 0,G E,D J 0,H U 0 0,G E] 32)) (w.heap.size+1) 32 #[D J 0,D J 0,D J 0,D J 0,G E,D J 0,H U 0 0,G E]:=heap_alloc2_new w _ _;replace HB:=qH hba;clear hba;go_upto_region 1 with fail
 generalize (w.alloc (.cells #[D J 0,D J f,D J 0,D J 0,G E,D J 0,H U 0 0,G E] 32)).alloc (.cells #[D J 0,D J 0,D J 0,D J 0,G E,D J 0,H U 0 0,G E] 32)=X at HB ab aa ⊢;obtain ⟨ac,qC⟩:∃a,w.heap.size=a:=⟨_,rfl⟩
 obtain ⟨ae,cY⟩:∃a,w.heap.size+1=a:=⟨_,rfl⟩
 have am:w.heap.size<=ac:=by omega
 have aB:w.heap.size<=ae:=by omega
 have bC:ac < ae:=by omega
 rw [cY] at aa ⊢;have ab:Blk X ac 32 #[D J 0,D J f,D J 0,D J 0,G E,D J 0,H U 0 0,G E]:=by rw [<-qC];exact ab
 clear cY;rw [qC];clear qC;have au:=ab.frozen 0;have aj:X.cell? ⟨ac,0,U⟩=Z (D J 0):=(ab.cell 0).trans rfl;go_wp2_with fail
 clear au aj;replace ab:=ab.set_ 0 (D J 3);replace aa:=aa.far (p:=⟨ac,0,U⟩) (Nat.ne_of_gt bC) (D J 3);replace HB:=qH (HB.out.setCell (p:=⟨ac,0,U⟩) am (D J 3));replace ab:Blk (X.setCell ⟨ac,0,U⟩ (D J 3)) ac 32 #[D J 3,D J f,D J 0,D J 0,G E,D J 0,H U 0 0,G E]:=ab;generalize (X.setCell ⟨ac,0,U⟩ (D J 3))=Xa at ab aa HB ⊢;obtain ⟨R0,CF⟩:∃R,zGO (T.length+1) [] T=R:=⟨_,rfl⟩
 have oq:=qH CF;have HI:=qH (show zGO (n+1) [] T=R0 from by rw [<-bo.out];exact CF);clear CF;go_loopw [1] (fun v1 wv=>∃(P:List Sp) (S:List (List UInt8)) (A':Option Addr) (n' c':Nat) (B:Option Addr) (m d j:Nat) (V:ZY),V=wv/\v1=H A' n' c'/\n'<=n/\m+n'<=n/\Hid (Row w base 1 A' n' c' (S.map zDE))/\Hid (S.length=n')/\Hid (∀p∈S,p.length<=100000)/\Hid (zGO j P S=R0/\n' < j)/\Hid (P.length=m)/\Blk V ac 32 #[D J 3,D J f,D J 0,D J 0,G E,D J 0,H B m d,G E]/\Blk V ae 32 #[D J 0,D J 0,D J 0,D J 0,G E,D J 0,H U 0 0,G E]/\Row V (ae+1) 5 B m d (P.flatMap zCl)/\Hid (ZZ w.heap.size w V)) (fun v1 _=>sliN v1)
 case atStart=>exact ⟨[],T,A,n,c,U,0,0,n+1,_,rfl,rfl,O _,by omega,HA,bo,HW,qH ⟨HI.out,Nat.lt_succ_self _⟩,qH rfl,ab,aa,Row.none_ _ _ _,HB⟩
 case round =>
  clear ab aa HB HA bo HI HW;obtain ⟨P,S,A',n',c',B,m,d,j,X,hX,rfl,hn',hmn,HS,HL,HW,HJ,HM,ab,aa,aH,HB⟩:=hrel;subst hX;have eJ:∀k,blk B=Z k->k≠ac:=fun k hk=>by have:=(aH.lt k hk).1;omega
  have ek:∀k,blk B=Z k->k≠ae:=fun k hk=>by have:=(aH.lt k hk).1;omega
  obtain ⟨j,rfl⟩:∃q,j=q+1:=⟨j-1,by have:=HJ.out.2;omega⟩
  by_cases h0:n'=0
  ·subst h0;have Fa:S=[]:=List.length_eq_zero_iff.1 HL.out;have bO:=qH (show g=⟨3,f,⟨0,0,E,0⟩,P,E⟩ by rw [<-HG.out];exact zUi (s:=s0) (by rw [oq.out,<-HJ.out.1,Fa];exact zVR _ _));clear Fa HJ HG oq HS HW hn' hmn;obtain ⟨aj,aK,aw,aE,aD,aC,aJ,ap⟩:=cQ8 ab;obtain ⟨bg,bf,be,bc,aZ,aY,aX,aW⟩:=cQ8 aa;have aV:=aa.frozen 0;have aU:=aa.frozen 1;have aT:=aa.frozen 2;have aS:=aa.frozen 3;have aR:=aa.frozen 4;have aQ:=aa.frozen 5;have aP:=aa.frozen 6;have aO:=aa.frozen 7;have SV:=qH (aa.store8 (D J 3) (D J f) (D J 0) (D J 0) (G E) (D J 0) (H B m d) (G E));have BV:=zAc HB.out aB (D J 3) (D J f) (D J 0) (D J 0) (G E) (D J 0) (H B m d) (G E);have RV:=(aH.store8of ek (D J 3) (D J f) (D J 0) (D J 0) (G E) (D J 0) (H B m d) (G E)).mono (show w.heap.size<=ae+1 by omega);have nw:=qH (OpG.of (o:=⟨3,f,⟨0,0,E,0⟩,P,E⟩) RV HM.out.symm BV);have bU:=qH (show OpG w g (.returned (.agg #[D J 3,D J f,D J 0,D J 0,G E,D J 0,H B m d,G E])) ((((((((X.setCell ⟨ae,0,U⟩ (D J 3)).setCell ⟨ae,1,U⟩ (D J f)).setCell ⟨ae,2,U⟩ (D J 0)).setCell ⟨ae,3,U⟩ (D J 0)).setCell ⟨ae,4,U⟩ (G E)).setCell ⟨ae,5,U⟩ (D J 0)).setCell ⟨ae,6,U⟩ (H B m d)).setCell ⟨ae,7,U⟩ (G E)) from by rw [bO.out];exact nw.out);clear ab aa aH RV BV nw;go_wp2_with fail
   exact zAi rfl rfl SV.out Tryz.underlying32 rfl (by kernel_rfl) rfl bU.out
  have hS0:S≠[]:=fun e=>h0 (by rw [<-HL.out,e];rfl)
  have i0:(0:Int) < (n':Int):=by omega
  have i1:0 < n':=by omega
  obtain ⟨ga,oa,rfl,_,hga⟩:=HS.out.form i1;obtain ⟨W0,cA⟩:∃ZO,xa S 0=ZO:=⟨_,rfl⟩
  have eN:=qH (HS.out.txts (by omega));have x0:X.cell? ⟨ga,oa,U⟩=Z (W (bA W0)):=by have:=((eN.out.below HB.out).cell (j:=0) i1).2;rw [cA] at this;exact this
  have n1:=zAp W0 [102,114,111,109];by_cases hfm:W0=[102,114,111,109]
  ·rw [show (W0==[102,114,111,109])=Q from by rw [hfm];rfl] at n1;obtain ⟨s,hs⟩:∃s,zGu S.tail=s:=⟨_,rfl⟩
   obtain ⟨⟨sf,sl,sfar,spc⟩,sk⟩:=s;have bO:=qH (show g=⟨3,f,⟨sf,sl,sfar,spc⟩,P,E⟩ by rw [<-HG.out];exact zUi (by rw [oq.out,<-HJ.out.1,zTf _ _ hS0 (by rw [cA];exact hfm),hs]));have ke:=qH hs;obtain ⟨A1,hsl,jN⟩:=zCa HS.out (i:=1) (v:=1) (by omega) rfl;have cR:=qH (jN.txts (by omega));rw [List.drop_one] at cR;clear jN;clear hfm hS0 HJ HG oq hs;go_wp2_with fail
   refine (zER ke.out _ _ (cR.out.below HB.out)).mono ?_;rintro e Y ⟨rfl,hb⟩;replace ab:=ab.below hb ab.lt;replace aa:=aa.below hb aa.lt;replace aH:=aH.below hb;replace HB:=qH (zAa HB.out hb HB.out.size);clear hb;have cq:=ab.frozen 2;have aw:Y.cell? ⟨ac,2,U⟩=Z (D J 0):=(ab.cell 2).trans rfl;have eW:=ab.frozen 3;have aE:Y.cell? ⟨ac,3,U⟩=Z (D J 0):=(ab.cell 3).trans rfl;have eV:=ab.frozen 4;have aD:Y.cell? ⟨ac,4,U⟩=Z (G E):=(ab.cell 4).trans rfl;have eU:=ab.frozen 5;have aC:Y.cell? ⟨ac,5,U⟩=Z (D J 0):=(ab.cell 5).trans rfl;go_upto_region 10 with fail
   clear cq aw eW aE eV aD eU aC;replace ab:=ab.set_ 2 (D J sf);replace aa:=aa.far (p:=⟨ac,2,U⟩) (Nat.ne_of_gt bC) (D J sf);replace aH:=aH.farSet 2 (D J sf) eJ;replace HB:=qH (HB.out.setCell (p:=⟨ac,2,U⟩) am (D J sf));replace ab:=ab.set_ 3 (D J sl);replace aa:=aa.far (p:=⟨ac,3,U⟩) (Nat.ne_of_gt bC) (D J sl);replace aH:=aH.farSet 3 (D J sl) eJ;replace HB:=qH (HB.out.setCell (p:=⟨ac,3,U⟩) am (D J sl));replace ab:=ab.set_ 4 (G sfar);replace aa:=aa.far (p:=⟨ac,4,U⟩) (Nat.ne_of_gt bC) (G sfar);replace aH:=aH.farSet 4 (G sfar) eJ;replace HB:=qH (HB.out.setCell (p:=⟨ac,4,U⟩) am (G sfar));replace ab:=ab.set_ 5 (D J spc);replace aa:=aa.far (p:=⟨ac,5,U⟩) (Nat.ne_of_gt bC) (D J spc);replace aH:=aH.farSet 5 (D J spc) eJ;replace HB:=qH (HB.out.setCell (p:=⟨ac,5,U⟩) am (D J spc));replace ab:Blk ((((Y.setCell ⟨ac,2,U⟩ (D J sf)).setCell ⟨ac,3,U⟩ (D J sl)).setCell ⟨ac,4,U⟩ (G sfar)).setCell ⟨ac,5,U⟩ (D J spc)) ac 32 #[D J 3,D J f,D J sf,D J sl,G sfar,D J spc,H B m d,G E]:=ab;generalize ((((Y.setCell ⟨ac,2,U⟩ (D J sf)).setCell ⟨ac,3,U⟩ (D J sl)).setCell ⟨ac,4,U⟩ (G sfar)).setCell ⟨ac,5,U⟩ (D J spc))=ZR at ab aa aH HB ⊢;obtain ⟨aj,aK,aw,aE,aD,aC,aJ,ap⟩:=cQ8 ab;obtain ⟨bg,bf,be,bc,aZ,aY,aX,aW⟩:=cQ8 aa;have aV:=aa.frozen 0;have aU:=aa.frozen 1;have aT:=aa.frozen 2;have aS:=aa.frozen 3;have aR:=aa.frozen 4;have aQ:=aa.frozen 5;have aP:=aa.frozen 6;have aO:=aa.frozen 7;have SV:=qH (aa.store8 (D J 3) (D J f) (D J sf) (D J sl) (G sfar) (D J spc) (H B m d) (G E));have BV:=zAc HB.out aB (D J 3) (D J f) (D J sf) (D J sl) (G sfar) (D J spc) (H B m d) (G E);have RV:=(aH.store8of ek (D J 3) (D J f) (D J sf) (D J sl) (G sfar) (D J spc) (H B m d) (G E)).mono (show w.heap.size<=ae+1 by omega);have nw:=qH (OpG.of (o:=⟨3,f,⟨sf,sl,sfar,spc⟩,P,E⟩) RV HM.out.symm BV);have bU:=qH (show OpG w g (.returned (.agg #[D J 3,D J f,D J sf,D J sl,G sfar,D J spc,H B m d,G E])) ((((((((ZR.setCell ⟨ae,0,U⟩ (D J 3)).setCell ⟨ae,1,U⟩ (D J f)).setCell ⟨ae,2,U⟩ (D J sf)).setCell ⟨ae,3,U⟩ (D J sl)).setCell ⟨ae,4,U⟩ (G sfar)).setCell ⟨ae,5,U⟩ (D J spc)).setCell ⟨ae,6,U⟩ (H B m d)).setCell ⟨ae,7,U⟩ (G E)) from by rw [bO.out];exact nw.out);clear ab aa aH RV BV nw;go_wp2_with fail
   exact zAi rfl rfl SV.out Tryz.underlying32 rfl (by kernel_rfl) rfl bU.out
  ·rw [show (W0==[102,114,111,109])=E from by simpa using hfm] at n1;obtain ⟨ZS,hU⟩:∃ZS,zEV S.tail=ZS:=⟨_,rfl⟩
   obtain ⟨s,hs⟩:∃s,zGu ZS=s:=⟨_,rfl⟩
   obtain ⟨⟨sf,sl,sfar,spc⟩,sk⟩:=s;have hsr:zGu (zEV S.tail)=(⟨sf,sl,sfar,spc⟩,sk):=by rw [hU,hs]
   have hskn:sk<=n'-1:=by
    have h1:=zXA ZS;have h2:=zVQ S.tail;rw [hs] at h1;rw [hU,List.length_tail,HL.out] at h2;simp only at h1;omega
   have Dv:=qH (show ∀p∈S.tail,p.length<=100000 from fun p hp=>HW.out p (List.mem_of_mem_tail hp));have Dw:=qH hU;have ke:=qH hs;obtain ⟨A1,hsl,jN⟩:=zCa HS.out (i:=1) (v:=1) (by omega) rfl;have cR:=qH (jN.txts (by omega));rw [List.drop_one] at cR;have A7:=qH hsr;have Bg:=qH (show xa S 0≠zAz by rw [cA];exact hfm);have tV:=qH hS0;have A5:=qH cA;clear jN hU hs hsr hfm hS0 cA;go_wp2_with fail
   refine (zOy Dw.out _ _ (cR.out.below HB.out) (by omega) Dv.out).mono ?_;rintro e Y ⟨B1,m1,d1,rfl,fL,o6,hb⟩;have wR:=qH (fL.txts (by omega));clear x0 fL;replace ab:=ab.below hb ab.lt;replace aa:=aa.below hb aa.lt;replace aH:=aH.below hb;replace HB:=qH (zAa HB.out hb HB.out.size);clear hb;go_wp2_with fail
   refine (zER ke.out _ _ wR.out).mono ?_;rintro e Y2 ⟨rfl,hb⟩;clear wR;replace ab:=ab.below hb ab.lt;replace aa:=aa.below hb aa.lt;replace aH:=aH.below hb;replace HB:=qH (zAa HB.out hb HB.out.size);clear hb;have q2:=(M Y2.heap.size Y2).alloc (O _) (.cells #[D J sf,D J sl,G sfar,D J spc] 29);replace ab:=ab.below q2 ab.lt;replace aa:=aa.below q2 aa.lt;replace aH:=aH.below q2;replace HB:=qH (zAa HB.out q2 HB.out.size);have oN:=Blk.new Y2 29 #[D J sf,D J sl,G sfar,D J spc];clear q2;go_upto_region 4 with fail
   generalize Y2.alloc (.cells #[D J sf,D J sl,G sfar,D J spc] 29)=Z0 at ab aa oN aH HB ⊢;generalize hz_st:Y2.heap.size=a_st at oN ⊢;clear hz_st;by_cases hk0:sk=0
   ·subst hk0;have bO:=qH (show g=o0 by rw [<-HG.out];exact zTi (by rw [oq.out,<-HJ.out.1];exact zTg _ _ tV.out Bg.out A7.out));clear A7 Bg tV HG oq HJ hskn Dv Dw ke cR A5 eN hsl;obtain ⟨bg,bf,be,bc,aZ,aY,aX,aW⟩:=cQ8 aa;have aV:=aa.frozen 0;have aU:=aa.frozen 1;have aT:=aa.frozen 2;have aS:=aa.frozen 3;have aR:=aa.frozen 4;have aQ:=aa.frozen 5;have aP:=aa.frozen 6;have aO:=aa.frozen 7;have SV:=qH (aa.store8 (D J 0) (D J 0) (D J 0) (D J 0) (G E) (D J 0) (H U 0 0) (G E));have BV:=zAc HB.out aB (D J 0) (D J 0) (D J 0) (D J 0) (G E) (D J 0) (H U 0 0) (G E);have bU:=qH (show OpG w g (.returned (.agg #[D J 0,D J 0,D J 0,D J 0,G E,D J 0,H U 0 0,G E])) ((((((((Z0.setCell ⟨ae,0,U⟩ (D J 0)).setCell ⟨ae,1,U⟩ (D J 0)).setCell ⟨ae,2,U⟩ (D J 0)).setCell ⟨ae,3,U⟩ (D J 0)).setCell ⟨ae,4,U⟩ (G E)).setCell ⟨ae,5,U⟩ (D J 0)).setCell ⟨ae,6,U⟩ (H U 0 0)).setCell ⟨ae,7,U⟩ (G E)) from by rw [bO.out];exact OpG.of (o:=o0) (Row.none_ _ _ _) rfl BV);clear ab aa oN aH BV;go_wp2_with fail
    exact zAi rfl rfl SV.out Tryz.underlying32 rfl (by kernel_rfl) rfl bU.out
   ·have q0:((sk:Int)==0)=E:=by simp only [beq_eq_false_iff_ne,ne_eq];omega
    have GU:=qH (show zGO j (P++[⟨⟨sf,sl,sfar,spc⟩,ovT W0⟩]) (S.drop (sk+1))=R0/\n'-(sk+1) < j from ⟨by rw [<-HJ.out.1,zTh _ _ tV.out Bg.out A7.out hk0,A5.out],by have:=HJ.out.2;omega⟩);have x0:Z0.cell? ⟨ga,oa,U⟩=Z (W (bA W0)):=by have:=((eN.out.below HB.out).cell (j:=0) i1).2;rw [A5.out] at this;exact this
    have n2:=zAp W0 [111,118,101,114];rw [show (W0==[111,118,101,114])=ovT W0 from rfl] at n2;generalize ovT W0=ov at n2 GU;obtain ⟨aj,aK,aw,aE,aD,aC,aJ,ap⟩:=cQ8 ab;obtain ⟨zm,zl,zk,zj⟩:=cQ4 oN;have hba:=(M Z0.heap.size Z0).alloc (O _) (.cells #[D J sf,D J sl,G sfar,D J spc,G ov] 86);have y6:(Z0.alloc (.cells #[D J sf,D J sl,G sfar,D J spc,G ov] 86)).cell? ⟨ac,6,U⟩=Z (H B m d):=((ab.below hba ab.lt).cell 6).trans rfl;have hsz:ae+1<=Z0.heap.size:=aa.lt;have jF:m+1<=1000000:=by omega
    have KB:=qH (Blk.new Z0 86 #[D J sf,D J sl,G sfar,D J spc,G ov]);have zr:=qH (aH.below hba);have Dm:=qH (ab.below hba ab.lt);have KR2:=qH (aa.below hba aa.lt);have ly:=qH (show ae+1<=(Z0.alloc (.cells #[D J sf,D J sl,G sfar,D J spc,G ov] 86)).heap.size from Nat.le_trans hsz hba.size);have vX:=qH (zAa HB.out hba HB.out.size);obtain ⟨A2,hsl2,wE⟩:=zCa HS.out (i:=sk+1) (v:=(sk:Int)+1) (by omega) (by omega);have ie:=qH wE;have w1:IntKind.i64.wrap ((sk:Int)+1)=(sk:Int)+1:=IntWalk.i64_in _ (by omega);have zW:=qH (show (S.drop (sk+1)).length=n'-(sk+1) by rw [List.length_drop,HL.out]);have vI:=qH (show ∀p∈S.drop (sk+1),p.length<=100000 from fun p hp=>HW.out p (List.mem_of_mem_drop hp));clear wE hba A7 Bg tV HG oq HJ Dv Dw ke cR A5 eN hsl hk0 HS HL HW;go_upto_region 6 with fail
    go_region_law (first
     | ((refine zUh (base:=ae+1) (g:=Z0.heap.size) (A:=B) (n:=m) (c:=d) (P:=P) rfl (.tmp 28) (.tmp 35) (by rfl) ⟨⟨sf,sl,sfar,spc⟩,ov⟩ (by rfl) (by rfl) (by first | exact KB.out.drew | exact KB.out) (by first | exact zr.out.drew | exact zr.out) (m+1) rfl jF (by first | exact ly.out) ?_)
        intro B2 d2 w9 hR9 bn b8
        have qf:Blk w9 ac 32 #[D J 3,D J f,D J 0,D J 0,G E,D J 0,H B m d,G E]:=Dm.out.drew.grown b8 (fun e=>eJ ac e.symm rfl)
        have z9:=qf.frozen 6
        have c9:w9.cell? ⟨ac,6,U⟩=Z (H B m d):=(qf.cell 6).trans rfl))
    all_goals
     have xJ:=KR2.out.drew.grown b8 (fun e=>ek ae e.symm rfl);have cl:∀k,blk B2=Z k->k≠ac:=fun k hk=>by have:=(hR9.lt k hk).1;omega
     have wJ:ZZ w.heap.size w (w9.setCell ⟨ac,6,U⟩ (H B2 (m+1) d2)):=((vX.out.drew.trans (bn.mono (show w.heap.size<=ae+1 by omega)))).setCell (p:=⟨ac,6,U⟩) am _;have xK:Blk (w9.setCell ⟨ac,6,U⟩ (H B2 (m+1) d2)) ac 32 #[D J 3,D J f,D J 0,D J 0,G E,D J 0,H B2 (m+1) d2,G E]:=qf.set_ 6 _;have oM:=xJ.far (p:=⟨ac,6,U⟩) (Nat.ne_of_gt bC) (H B2 (m+1) d2);have jO:=hR9.farSet 6 (H B2 (m+1) d2) cl;have lD:=qH (And.intro xK (And.intro oM (And.intro jO (qH wJ))));have cc:=qH (show (P++[(⟨⟨sf,sl,sfar,spc⟩,ov⟩:Sp)]).length=m+1 by rw [List.length_append,HM.out];rfl);clear xK oM jO wJ cl xJ qf hR9 bn b8 ab aa oN aH y6;clear aj aK aw aE aD aC aJ ap zm zl zk zj;go_wp2_with fail
     go_roundw
     case rel=>exact ⟨_,_,A2,n'-(sk+1),c'-(sk+1),B2,m+1,d2,j,_,rfl,rfl,by omega,by omega,ie,zW,vI,GU,cc,lD.out⟩
     case measure=>simp [sliN];omega
