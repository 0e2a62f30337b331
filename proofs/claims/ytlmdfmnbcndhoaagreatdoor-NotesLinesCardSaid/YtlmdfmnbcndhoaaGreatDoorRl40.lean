/-
  Lemmas, part 40. Conditions: each theorem's own.
-/
import Derived.Test.YtlmdfmnbcndhoaaGreatDoorRl25
import Derived.Test.YtlmdfmnbcndhoaaGreatDoorRl39
import Derived.Test.YtlmdfmnbcndhoaaGreatDoorRl26
namespace Go.Proofs.YtlmdfmnbcndhoaaGreatDoor
open Go.RowKit
theorem zVa {p d:Nat} (hp:p < 9) (hd:d < 7):AL.take (14*p+2*d)++[⟨(p:Int)+1,false,(d:Int)⟩,⟨(p:Int)+1,true,(d:Int)⟩]=AL.take (14*p+2*d+2):=by
 have h:((List.range 9).all fun p=>(List.range 7).all fun d=>decide (AL.take (14*p+2*d)++[⟨(p:Int)+1,false,(d:Int)⟩,⟨(p:Int)+1,true,(d:Int)⟩]=AL.take (14*p+2*d+2)))=true:=by decide +kernel
 have h1:=List.all_eq_true.1 h p (List.mem_range.2 hp);have h2:=List.all_eq_true.1 h1 d (List.mem_range.2 hd);exact of_decide_eq_true h2
theorem zVb (p d p' d':Int) (r r':Bool) (w:World):(Instr.buildSlice 22 2 #[(0,.agg #[.int .i64 p,.bool r,.int .i64 d]),(1,.agg #[.int .i64 p',.bool r',.int .i64 d'])]).run Tryz.prog w =
  .ok (.slice (some ⟨w.heap.size,0,none⟩) 2 2) (w.alloc (.cells #[.int .i64 p,.bool r,.int .i64 d,.int .i64 p',.bool r',.int .i64 d'] 90)):=by
 obtain ⟨i0,hi,ci,be,cH⟩:=info_parts zNa;refine run_buildSlice w _ _ 2 _ _ i0 _ Tryz.underlying22 hi ci (by rw [be];omega) (by rw [be];omega) ?_;rw [be]
 kernel_rfl
theorem zWp {w:World} {ops:Array Oper} {rest:List Oper} {o:Oper} {a:Act} {Q':Exit→Act→World→Prop} (hgd:o.guard=none) (s x:Operand)
  (ho:o.op=.call { callee:=.builtin .append,args:=#[s,x],argTypes:=#[22,22] })
  {base:Nat} {A:Option Addr} {n c:Nat} {L:List Fg} (hst:Row w base 3 A n c (L.flatMap fgC)) (f g:Fg) (hs:a.eval s=.slice A n c)
  (H:Nat) (hH:w.heap.size=H) (hx:a.eval x=.slice (some ⟨H,0,none⟩) 2 2) (N:Nat) (hN:n+2=N) (hn:N≤1000000) (hbase:base≤w.heap.size)
  (h:∀A' c' w',Row w' base 3 A' N c' ((L++[f,g]).flatMap fgC)→w.grownBy w' (blk A)→(∀k,blk A'=some k→blk A=some k∨w.heap.size≤k)→wpList Tryz.prog ops Q' rest (a.put o.dst (.slice A' N c')) w') :
  wpList Tryz.prog ops Q' (o :: rest) a (w.alloc (.cells #[.int .i64 f.p,.bool f.r,.int .i64 f.d,.int .i64 g.p,.bool g.r,.int .i64 g.d] 90)):=by
 subst hH;obtain ⟨i0,hi,ci,be,cH⟩:=info_parts zNa
 refine zQL hgd s x 22 ho 90 i0 _ 3 24 Tryz.underlying22 hi ci be cH rfl (by decide) (hst.alloc _) (Src.new (m:=2) (cs:=fgC f++fgC g) rfl)
  (by intro u hu;simp [fgC] at hu;rcases hu with rfl | rfl | rfl | rfl | rfl | rfl<;>rfl) hs hx N hN (by unfold maxLen;omega) (by omega) (by simp;omega) ?_
 intro A' c' w' h1 h2 h3 _;refine h A' c' w' (by rw [List.flatMap_append];simpa using h1) (zAb (World.grownBy_alloc w _ _) h2) (fun k hk=>?_);rcases h3 k hk with h | h
 ·exact .inl h
 ·right;simp at h;omega
theorem zQs (w:World):(Instr.build 24 #[(2,.int .i64 1)]).run Tryz.prog w=.ok (.agg #[.slice none 0 0,.int .i64 0,.int .i64 1]) w:=run_build w _ _ _ (by kernel_rfl)
set_option maxHeartbeats 6400000 in
set_option maxRecDepth 100000 in
theorem zGE (w:World):Calls Tryz.prog 56 #[] w fun e w'=>∃A c,e=.returned (frV A 126 c 0 1)∧Row w' w.heap.size 3 A 126 c (AL.flatMap fgC)∧Below w.heap.size w w':=by
 have ah:Below w.heap.size w (w.alloc (.cells #[.slice none 0 0,.int .i64 0,.int .i64 0] 24)):=(Below.refl _ _).alloc (Nat.le_refl _) _;have hk0:Blk (w.alloc (.cells #[.slice none 0 0,.int .i64 0,.int .i64 0] 24)) w.heap.size 24 #[.slice none 0 0,.int .i64 0,.int .i64 0]:=Blk.new _ _ _;have bfr:=zQs;have bfl:=zKG;have bfrr:=zKH;have bg2:=zVb;go_enter Tryz.func56,Tryz.ntmps56;go_upto_region 1 with fail
 generalize w.alloc (.cells #[.slice none 0 0,.int .i64 0,.int .i64 0] 24)=Y at ah hk0 ⊢;have ce:FbW Y (Y.alloc (.cells #[.slice none 0 0,.int .i64 0,.int .i64 1] 24)) Y.heap.size 0 1 none 0 0 (AL.take 0):=⟨Row.none_ _ _ _,Blk.new _ _ _,fun q hq=>(by cases hq),(Below.refl _ _).alloc (Nat.le_refl _) _⟩;go_upto_region 2 with fail
 generalize hZ:Y.alloc (.cells #[.slice none 0 0,.int .i64 0,.int .i64 1] 24)=Z at ce ⊢;clear hZ;obtain ⟨oB,nE⟩:∃a,Y.heap.size=a:=⟨_,rfl⟩
 have sK:Y.heap.size≤oB:=by omega
 have hwo:w.heap.size < oB:=by rw [←nE];exact hk0.lt
 rw [nE];have ce:FbW Y Z oB 0 1 none 0 0 (AL.take 0):=by rw [←nE];exact ce
 clear nE;go_wp2_with fail
 go_loopw [2] (fun v2 wv=>∃(i:Nat) (p:Int) (X:World) (A1:Option Addr) (c1:Nat),X=wv∧i≤9∧v2=.int .i64 p∧Hid (p=(i:Int)+1)∧FbW Y X oB 0 1 A1 (14*i) c1 (AL.take (14*i))) (fun v2 _=>10-(intOf v2).toNat)
 case atStart=>exact ⟨0,1,_,none,0,rfl,by omega,rfl,qH rfl,ce⟩
 case round =>
  obtain ⟨i,p,X,A1,c1,hX,hi,rfl,HP,hW⟩:=hrel;subst hX;clear ce;by_cases hlt:i < 9
  ·have i1:p≤9:=by have:=HP.out;omega
   have i2:1≤p:=by have:=HP.out;omega
   have ce:FbW Y X oB 0 1 A1 (14*i+2*0) c1 (AL.take (14*i+2*0)):=hW;clear hW;go_wp2_with fail
   go_loopw [3] (fun v3 wv=>∃(j:Nat) (q:Int) (X:World) (A1:Option Addr) (c1 n1:Nat),X=wv∧j≤7∧v3=.int .i64 q∧Hid (q=(j:Int))∧n1=14*i+2*j∧FbW Y X oB 0 1 A1 n1 c1 (AL.take (14*i+2*j))) (fun v3 _=>7-(intOf v3).toNat)
   case atStart=>exact ⟨0,0,_,A1,c1,_,rfl,by omega,rfl,qH rfl,rfl,ce⟩
   case round =>
    obtain ⟨j,q,X,A1,c1,n1,hX,hj,rfl,HQ,mt,hW⟩:=hrel;subst hX;clear ce;by_cases hjt:j < 7
    ·have j1:q≤6:=by have:=HQ.out;omega
     have j2:0≤q:=by have:=HQ.out;omega
     have xW:=qH (show AL.take (14*i+2*j)++[⟨p,false,q⟩,⟨p,true,q⟩]=AL.take (14*i+2*j+2) by rw [HP.out,HQ.out];exact zVa hlt hjt);have o0:X.cell? ⟨oB,0,none⟩=some (.slice A1 n1 c1):=(hW.bk.cell 0).trans rfl;have bh:Y.heap.size≤X.heap.size:=hW.old.size;have xH:n1+2≤1000000:=by omega
     have HN1:=qH mt;clear mt;go_upto_region 7 with (at_builtin;refine zEV ?_)
     refine qH ?_;refine zWp (base:=Y.heap.size) (A:=A1) (n:=n1) (c:=c1) (L:=AL.take (14*i+2*j)) rfl (.tmp 14) (.tmp 21) ?_ ?_ ⟨p,false,q⟩ ⟨p,true,q⟩ ?_ X.heap.size rfl ?_ (n1+2) rfl xH bh ?_
     ·rfl
     ·exact hW.own
     ·rfl
     ·rfl
     intro A2 c2 w9 fH cl hl9';obtain ⟨fU,eJ⟩:=hW.pushed sK fH cl hl9';have p1:w9.cell? ⟨oB,0,none⟩=some (.slice A1 n1 c1):=(fU.cell 0).trans rfl;have z1:=fU.frozen 0;rw [xW.out] at eJ;have pi:=qH eJ;clear hW fH cl hl9' eJ fU o0;go_wp2_with fail
     go_roundw
     case rel=>exact ⟨j+1,q+1,_,A2,c2,n1+2,rfl,by omega,by go_num,qH (by rw [HQ.out];omega),by have:=HN1.out;omega,pi.out⟩
     case measure=>simp [intOf];omega
    ·obtain rfl:j=7:=by omega
     obtain rfl:q=7:=HQ.out;clear HQ
     have vj:=qH (show FbW Y X oB 0 1 A1 (14*(i+1)) c1 (AL.take (14*(i+1))) by
      have h:=hW
      rw [mt] at h
      exact h)
     clear hW mt;go_wp2_with fail
     go_roundw
     case rel=>exact ⟨i+1,p+1,_,A1,c1,rfl,by omega,by go_num,qH (by rw [HP.out];omega),vj.out⟩
     case measure=>simp [intOf];omega
  ·obtain rfl:i=9:=by omega
   obtain rfl:p=10:=HP.out;clear HP;have uI:w.heap.size < Y.heap.size:=hk0.lt;have ft:=hk0.below hW.old uI;have e0:X.cell? ⟨oB,0,none⟩=some (.slice A1 (14*9) c1):=(hW.bk.cell 0).trans rfl;have e1:X.cell? ⟨oB,1,none⟩=some (.int .i64 0):=(hW.bk.cell 1).trans rfl;have e2:X.cell? ⟨oB,2,none⟩=some (.int .i64 1):=(hW.bk.cell 2).trans rfl;have r0:X.cell? ⟨w.heap.size,0,none⟩=some (.slice none 0 0):=(ft.cell 0).trans rfl;have r1:X.cell? ⟨w.heap.size,1,none⟩=some (.int .i64 0):=(ft.cell 1).trans rfl;have r2:X.cell? ⟨w.heap.size,2,none⟩=some (.int .i64 0):=(ft.cell 2).trans rfl;have z0:=ft.frozen 0;have z1:=ft.frozen 1;have z2:=ft.frozen 2;have vp:=qH ft;have HW:=qH hW;have nD:=ah.size;clear hlt hW ft;go_wp2_with fail
   have hS:Blk (((X.setCell ⟨w.heap.size,0,none⟩ (.slice A1 (14*9) c1)).setCell ⟨w.heap.size,1,none⟩ (.int .i64 0)).setCell ⟨w.heap.size,2,none⟩ (.int .i64 1)) w.heap.size 24 #[.slice A1 (14*9) c1,.int .i64 0,.int .i64 1]:=((vp.out.set_ 0 _).set_ 1 _).set_ 2 _;have gS:=zAh (zAh (zAh (World.grownBy.refl X (some w.heap.size)) (p:=⟨w.heap.size,0,none⟩) (.inl rfl) (.slice A1 (14*9) c1)) (p:=⟨w.heap.size,1,none⟩) (.inl rfl) (.int .i64 0)) (p:=⟨w.heap.size,2,none⟩) (.inl rfl) (.int .i64 1);have gA:=(((zAa ah HW.out.old nD).setCell (p:=⟨w.heap.size,0,none⟩) (Nat.le_refl _) (.slice A1 (14*9) c1)).setCell (p:=⟨w.heap.size,1,none⟩) (Nat.le_refl _) (.int .i64 0)).setCell (p:=⟨w.heap.size,2,none⟩) (Nat.le_refl _) (.int .i64 1);have hT:AL.take (14*9)=AL:=List.take_of_length_le (by rw [zKo];omega);have uK:Row (((X.setCell ⟨w.heap.size,0,none⟩ (.slice A1 (14*9) c1)).setCell ⟨w.heap.size,1,none⟩ (.int .i64 0)).setCell ⟨w.heap.size,2,none⟩ (.int .i64 1)) w.heap.size 3 A1 126 c1 (AL.flatMap fgC):=by
    have h:=HW.out.own;rw [hT] at h;refine (h.kept gS ?_).mono nD
    cases hb:blk A1 with
    | none=>exact .inl rfl
    | some q=>exact .inr (by have:=(HW.out.own.lt q hb).1;simp;omega)
   (try simp only [Exit.inBlock,Exit.then])
   refine zAu rfl rfl hS Tryz.underlying24 rfl (by kernel_rfl) rfl ?_;exact ⟨A1,c1,rfl,uK,gA⟩
theorem zNb {x:Fg} {S:List UInt8} (h:zAi x=S) (hx:zAl x=true) (w:World) :
  Calls Tryz.prog 111 #[fgV x] w fun e w'=>e=.returned (.string (bA S))∧Below w.heap.size w w':=by
 subst h;exact zJT x hx w
def zVc (o:Option Fg):Value:=match o with | some f=>.tuple #[fgV f,.bool true] | none=>.tuple #[fgV df,.bool false]
set_option maxHeartbeats 6400000 in
set_option maxRecDepth 100000 in
theorem zHP (S:List UInt8) (w:World) :
  Calls Tryz.prog 150 #[.string (bA S)] w fun e w'=>e=.returned (zVc (zGb S))∧Below w.heap.size w w':=by
 have ah:Below w.heap.size w (w.alloc (.cells #[.int .i64 0,.bool false,.int .i64 0] 90)):=(Below.refl _ _).alloc (Nat.le_refl _) _;have hk0:Blk (w.alloc (.cells #[.int .i64 0,.bool false,.int .i64 0] 90)) w.heap.size 90 #[.int .i64 0,.bool false,.int .i64 0]:=Blk.new _ _ _;have bl:=zKG;have br:=zKH;have bf0:=zOX;go_enter Tryz.func150,Tryz.ntmps150;go_wp2_with fail
 generalize w.alloc (.cells #[.int .i64 0,.bool false,.int .i64 0] 90)=W at ah hk0 ⊢;go_loopw [4] (fun v wr=>∃p:Nat,1≤p∧p≤10∧v=.int .i64 p∧Below W.heap.size W wr∧Hid (∀f,zAl f=true→f.p < (p:Int)→zAi f≠S)) (fun v _=>10-(intOf v).toNat)
 case atStart=>exact ⟨1,by omega,by omega,rfl,Below.refl _ _,qH (fun f hf h=>by have:=zAt.1 hf;omega)⟩
 case round =>
  obtain ⟨p,pu,hp,rfl,hbr,HP⟩:=hrel;by_cases hlt:p < 10
  ·have i1:(p:Int)≤9:=by omega
   go_wp2_with fail
   go_loopw [5] (fun v w1=>∃d:Nat,d≤7∧v=.int .i64 d∧Below W.heap.size W w1∧Hid (∀f,zAl f=true→(f.p < (p:Int)∨f.p=(p:Int)∧f.d < (d:Int))→zAi f≠S)) (fun v _=>7-(intOf v).toNat)
   case atStart=>exact ⟨0,by omega,rfl,hbr,qH (fun f hf h=>by rcases h with h | h;exact HP.out f hf h;have:=zAt.1 hf;omega)⟩
   case round =>
    clear hbr;obtain ⟨d,hd,rfl,hbr,HD⟩:=hrel;by_cases hdl:d < 7
    ·have i2:(d:Int)≤6:=by omega
     have hth:∀r,zAl ⟨(p:Int),r,(d:Int)⟩=true:=fun r=>zAt.2 ⟨by simp only;omega,by simp only;omega,by simp only;omega,by simp only;omega⟩
     obtain ⟨NL,Cw⟩:∃T,zAi ⟨(p:Int),false,(d:Int)⟩=T:=⟨_,rfl⟩
     obtain ⟨NR,Cv⟩:∃T,zAi ⟨(p:Int),true,(d:Int)⟩=T:=⟨_,rfl⟩
     have eQ:=qH (fun w=>zNb Cw (hth false) w);have HNR:=qH (fun w=>zNb Cv (hth true) w);have HL:=qH Cw;have HR:=qH Cv;have vZ:=qH hth;clear Cw Cv hth;have ai:Below W.heap.size W ((wr.alloc (.cells #[.int .i64 (p:Int),.bool false,.int .i64 (d:Int)] 90)).alloc (.cells #[.int .i64 (p:Int),.bool true,.int .i64 (d:Int)] 90)):=(hbr.alloc hbr.size _).alloc (by have:=hbr.size;simp;omega) _;have kl:Blk ((wr.alloc (.cells #[.int .i64 (p:Int),.bool false,.int .i64 (d:Int)] 90)).alloc (.cells #[.int .i64 (p:Int),.bool true,.int .i64 (d:Int)] 90)) wr.heap.size 90 #[.int .i64 (p:Int),.bool false,.int .i64 (d:Int)]:=(Blk.new wr _ _).alloc _;have kr:Blk ((wr.alloc (.cells #[.int .i64 (p:Int),.bool false,.int .i64 (d:Int)] 90)).alloc (.cells #[.int .i64 (p:Int),.bool true,.int .i64 (d:Int)] 90)) (wr.heap.size+1) 90 #[.int .i64 (p:Int),.bool true,.int .i64 (d:Int)]:=heap_alloc2_new wr _ _;go_upto_region 8 with fail
     generalize (wr.alloc (.cells #[.int .i64 (p:Int),.bool false,.int .i64 (d:Int)] 90)).alloc (.cells #[.int .i64 (p:Int),.bool true,.int .i64 (d:Int)] 90)=X at ai kl kr ⊢;have l0:X.cell? ⟨wr.heap.size,0,none⟩=some (.int .i64 (p:Int)):=(kl.cell 0).trans rfl;have l1:X.cell? ⟨wr.heap.size,1,none⟩=some (.bool false):=(kl.cell 1).trans rfl;have l2:X.cell? ⟨wr.heap.size,2,none⟩=some (.int .i64 (d:Int)):=(kl.cell 2).trans rfl;go_wp2_with fail
     refine (eQ.out _).mono ?_;rintro e Y ⟨rfl,hb⟩;have al:=zAa ai hb ai.size;have wX:=kl.below hb kl.lt;have pr:=kr.below hb kr.lt;clear l0 l1 l2 hb ai kl kr hbr;by_cases q1:NL=S
     ·have hres:=qH (show zGb S=some ⟨(p:Int),false,(d:Int)⟩ from zCm (vZ.out false) (HL.out.trans q1));have n0:((bA NL).toList==(bA S).toList)=true:=by rw [zBC];simpa using q1
      have cR:=hk0.below al hk0.lt;have c0:Y.cell? ⟨wr.heap.size,0,none⟩=some (.int .i64 (p:Int)):=(wX.cell 0).trans rfl;have c1:Y.cell? ⟨wr.heap.size,1,none⟩=some (.bool false):=(wX.cell 1).trans rfl;have c2:Y.cell? ⟨wr.heap.size,2,none⟩=some (.int .i64 (d:Int)):=(wX.cell 2).trans rfl;have d0:Y.cell? ⟨w.heap.size,0,none⟩=some (.int .i64 0):=(cR.cell 0).trans rfl;have d1:Y.cell? ⟨w.heap.size,1,none⟩=some (.bool false):=(cR.cell 1).trans rfl;have d2:Y.cell? ⟨w.heap.size,2,none⟩=some (.int .i64 0):=(cR.cell 2).trans rfl;have z0:=cR.frozen 0;have z1:=cR.frozen 1;have z2:=cR.frozen 2;have hS:=qH (cR.store3 (.int .i64 (p:Int)) (.bool false) (.int .i64 (d:Int)));have gA:=qH (zBW (zAa ah al ah.size) (Nat.le_refl w.heap.size) (.int .i64 (p:Int)) (.bool false) (.int .i64 (d:Int)));clear q1 wX pr cR al;go_wp2_with fail
      (try simp only [Exit.inBlock,Exit.then])
      exact zAD rfl rfl rfl hS.out Tryz.underlying90 rfl (by kernel_rfl) rfl ⟨by rw [hres.out];rfl,gA.out⟩
     ·have n0:((bA NL).toList==(bA S).toList)=false:=by rw [zBC];simpa using q1
      have c0:Y.cell? ⟨wr.heap.size+1,0,none⟩=some (.int .i64 (p:Int)):=(pr.cell 0).trans rfl;have c1:Y.cell? ⟨wr.heap.size+1,1,none⟩=some (.bool true):=(pr.cell 1).trans rfl;have c2:Y.cell? ⟨wr.heap.size+1,2,none⟩=some (.int .i64 (d:Int)):=(pr.cell 2).trans rfl;have th:=qH q1;clear q1;go_wp2_with fail
      refine (HNR.out _).mono ?_;rintro e Z ⟨rfl,hb⟩;have aI:=zAa al hb al.size;have wW:=pr.below hb pr.lt;clear c0 c1 c2 hb al wX pr;by_cases q2:NR=S
      ·have hres:=qH (show zGb S=some ⟨(p:Int),true,(d:Int)⟩ from zCm (vZ.out true) (HR.out.trans q2));have n1:((bA NR).toList==(bA S).toList)=true:=by rw [zBC];simpa using q2
       have cR:=hk0.below aI hk0.lt;have c0:Z.cell? ⟨wr.heap.size+1,0,none⟩=some (.int .i64 (p:Int)):=(wW.cell 0).trans rfl;have c1:Z.cell? ⟨wr.heap.size+1,1,none⟩=some (.bool true):=(wW.cell 1).trans rfl;have c2:Z.cell? ⟨wr.heap.size+1,2,none⟩=some (.int .i64 (d:Int)):=(wW.cell 2).trans rfl;have d0:Z.cell? ⟨w.heap.size,0,none⟩=some (.int .i64 0):=(cR.cell 0).trans rfl;have d1:Z.cell? ⟨w.heap.size,1,none⟩=some (.bool false):=(cR.cell 1).trans rfl;have d2:Z.cell? ⟨w.heap.size,2,none⟩=some (.int .i64 0):=(cR.cell 2).trans rfl;have z0:=cR.frozen 0;have z1:=cR.frozen 1;have z2:=cR.frozen 2;have hS:=qH (cR.store3 (.int .i64 (p:Int)) (.bool true) (.int .i64 (d:Int)));have gA:=qH (zBW (zAa ah aI ah.size) (Nat.le_refl w.heap.size) (.int .i64 (p:Int)) (.bool true) (.int .i64 (d:Int)));clear q2 wW cR aI;go_wp2_with fail
       (try simp only [Exit.inBlock,Exit.then])
       exact zAD rfl rfl rfl hS.out Tryz.underlying90 rfl (by kernel_rfl) rfl ⟨by rw [hres.out];rfl,gA.out⟩
      ·have n1:((bA NR).toList==(bA S).toList)=false:=by rw [zBC];simpa using q2
       have DJ:=qH (show ∀f,zAl f=true→(f.p < (p:Int)∨f.p=(p:Int)∧f.d < ((d+1:Nat):Int))→zAi f≠S from fun f hf h=>by
        by_cases h5:f.p < (p:Int)∨f.p=(p:Int)∧f.d < (d:Int)
        ·exact HD.out f hf h5
        ·obtain ⟨fp,fr,fd⟩:=f
         simp only at h h5
         have h1:fp=(p:Int):=by
          rcases h with h | h
          ·exact absurd (.inl h) h5
          ·exact h.1
         have h2:fd=(d:Int):=by
          rcases h with h | h
          ·exact absurd (.inl h) h5
          ·have:¬fd < (d:Int):=fun e=>h5 (.inr ⟨h.1,e⟩)
           omega
         rw [h1,h2]
         cases fr with
         | false=>rw [HL.out];exact th.out
         | true=>rw [HR.out];exact q2)
       clear q2 wW HD;go_wp2_with fail
       go_roundw
       case rel=>exact ⟨d+1,by omega,by go_num,aI,DJ⟩
       case measure=>simp [intOf];omega
    ·have i2:¬(d:Int)≤6:=by omega
     have Du:=qH (show ∀f,zAl f=true→f.p < ((p+1:Nat):Int)→zAi f≠S from fun f hf h=>HD.out f hf (by
      have:=zAt.1 hf
      omega))
     clear HD HP;go_wp2_with fail
     go_roundw
     case rel=>exact ⟨p+1,by omega,by omega,by go_num,hbr,Du⟩
     case measure=>simp [intOf];omega
  ·have i1:¬(p:Int)≤9:=by omega
   have hres:=qH (show zGb S=none from zKg fun f hf=>HP.out f hf (by have:=zAt.1 hf;omega));have cR:=hk0.below hbr hk0.lt;have d0:wr.cell? ⟨w.heap.size,0,none⟩=some (.int .i64 0):=(cR.cell 0).trans rfl;have d1:wr.cell? ⟨w.heap.size,1,none⟩=some (.bool false):=(cR.cell 1).trans rfl;have d2:wr.cell? ⟨w.heap.size,2,none⟩=some (.int .i64 0):=(cR.cell 2).trans rfl;have z0:=cR.frozen 0;have z1:=cR.frozen 1;have z2:=cR.frozen 2;have hS:=qH (cR.store3 (.int .i64 0) (.bool false) (.int .i64 0));have gA:=qH (zBW (zAa ah hbr ah.size) (Nat.le_refl w.heap.size) (.int .i64 0) (.bool false) (.int .i64 0));clear cR HP hbr;go_wp2_with fail
   (try simp only [Exit.inBlock,Exit.then])
   exact zAD rfl rfl rfl hS.out Tryz.underlying90 rfl (by kernel_rfl) rfl ⟨by rw [hres.out];rfl,gA.out⟩
theorem Stps.one (w:World) (x:Sp) (hx:SgOk x.s) (t:TypeId) :
  Stps (w.alloc (.cells #[.int .i64 x.s.f,.int .i64 x.s.l,.bool x.s.far,.int .i64 x.s.pc,.bool x.over] t)) (some ⟨w.heap.size,0,none⟩) 1 [x]:=by
 refine ⟨⟨rfl,by omega,fun _=>⟨_,_,rfl,by simp,fun j y hy q v hv=>?_⟩⟩,fun e he=>?_⟩
 ·rcases j with _ | j
  ·simp only [List.getElem?_cons_zero,Option.some.injEq] at hy;subst hy;rw [Nat.zero_mul,Nat.add_zero,Nat.zero_add,World.cell?_alloc_at _ _ _ _ rfl,←Array.getElem?_toList];exact hv
  ·simp at hy
 ·obtain rfl:e=x:=by simpa using he
  exact hx
theorem zBe {x:Int} (h0:0≤x) (h1:x≤1000000):I64 x:=⟨by omega,by omega⟩
theorem zWq:∀x∈stdF,FgOk x:=fun x hx=>by
 simp only [stdF,List.mem_cons,List.not_mem_nil,or_false] at hx;rcases hx with rfl | rfl | rfl | rfl | rfl | rfl | rfl | rfl | rfl | rfl<;>exact ⟨⟨by decide,by decide⟩,⟨by decide,by decide⟩⟩
theorem zWr:OgOk exO:=⟨zBe (by decide) (by decide),zBe (by decide) (by decide),⟨zBe (by decide) (by decide),zBe (by decide) (by decide),zBe (by decide) (by decide)⟩⟩
theorem zWs (w:World):(Instr.build 29 #[(0,.int .i64 5),(1,.int .i64 1)]).run Tryz.prog w=.ok (.agg #[.int .i64 5,.int .i64 1,.bool false,.int .i64 0]) w:=run_build w _ _ _ (by kernel_rfl)
theorem zWt (w:World):(Instr.build 29 #[(0,.int .i64 6),(1,.int .i64 1)]).run Tryz.prog w=.ok (.agg #[.int .i64 6,.int .i64 1,.bool false,.int .i64 0]) w:=run_build w _ _ _ (by kernel_rfl)
theorem zWu (w:World):(Instr.build 86 #[(0,.agg #[.int .i64 6,.int .i64 1,.bool false,.int .i64 0]),(1,.bool true)]).run Tryz.prog w=.ok (.agg #[.int .i64 6,.int .i64 1,.bool false,.int .i64 0,.bool true]) w:=run_build w _ _ _ (by kernel_rfl)
theorem zVd:(Tryz.prog.info? 86).map (fun i=>(i.zero,i.size,i.bytes))=some (some (.agg #[.int .i64 0,.int .i64 0,.bool false,.int .i64 0,.bool false]),5,40):=by kernel_rfl
theorem zWv (w:World):(Instr.buildSlice 30 1 #[(0,.agg #[.int .i64 6,.int .i64 1,.bool false,.int .i64 0,.bool true])]).run Tryz.prog w=.ok (.slice (some ⟨w.heap.size,0,none⟩) 1 1) (w.alloc (.cells #[.int .i64 6,.int .i64 1,.bool false,.int .i64 0,.bool true] 86)):=by
 obtain ⟨i0,hi,ci,be,cH⟩:=info_parts zVd;refine run_buildSlice w _ _ 1 _ _ i0 _ Tryz.underlying30 hi ci (by rw [be];omega) (by rw [be];omega) ?_;rw [be]
 kernel_rfl
theorem zWw (A:Option Addr) (w:World):(Instr.build 32 #[(0,.int .i64 3),(1,.int .i64 9),(2,.agg #[.int .i64 5,.int .i64 1,.bool false,.int .i64 0]),(3,.slice A 1 1)]).run Tryz.prog w=.ok (.agg #[.int .i64 3,.int .i64 9,.int .i64 5,.int .i64 1,.bool false,.int .i64 0,.slice A 1 1,.bool false]) w:=run_build w _ _ _ (by kernel_rfl)
section
variable {A:Option Addr} {c:Nat} {w:World}
theorem zSq (hA:Fgs w A 10 stdF) (hc:10≤c) (B:Option Addr) (hO:OpIn w exO B 1 1) (ht:Tabs w) :
  Calls Tryz.prog 41 #[frV A 10 c 6 4,opV exO B 1 1] w fun e w'=>e=.returned (.tuple #[.string (bA zXx),.int .i64 0])∧Below w.heap.size w w':=by
 have h:=zLi A 10 c stdF 6 4 exO B 1 1 w hA hc hO (by omega) ht;rw [zMW.1,if_pos rfl,zMW.2] at h;exact h
theorem zSr (hA:Fgs w A 10 stdF) (hc:10≤c) (ht:Tabs w) :
  Calls Tryz.prog 40 #[frV A 10 c 6 4,.string (bA zMV),.int .i64 2,.int .i64 1] w fun e w'=>e=.returned (.tuple #[.string (bA zXy),.int .i64 0])∧Below w.heap.size w w':=by
 have h:=zHu ⟨A,10,c,stdF,6,4⟩ zMV 2 1 w hA hc ht;simp only at h;rw [zMY.1,zMY.2] at h;exact h
theorem zSs (hA:Fgs w A 10 stdF) (hc:10≤c) (ht:Tabs w) :
  Calls Tryz.prog 37 #[frV A 10 c 6 4,.string (bA exS)] w (zSc w 10 [exL 1] 0):=by
 have h:=zFj ⟨A,10,c,stdF,6,4⟩ exS w hA hc ht;simp only at h;rw [zXu] at h;exact h
theorem zNc (S:List UInt8) (E:Int) (hE:zDe stdF S=E) (hS:S.length≤8000) (hA:Fgs w A 10 stdF) (hc:10≤c) (ht:Tabs w) :
  Calls Tryz.prog 17 #[frV A 10 c 6 4,.string (bA S)] w fun e w'=>∃(o:Og) (B:Option Addr) (m d:Nat),e=.returned (.tuple #[opV o B m d,.int .i64 E])∧Below w.heap.size w w':=by
 have h:=zHn ⟨A,10,c,stdF,6,4⟩ S w hA hc ht;refine h.mono ?_;rintro e w' ⟨B,m,d,he,_,_,hb⟩;refine ⟨rdO stdF 6 4 S,B,m,d,?_,hb⟩;rw [he];have h0:zAy stdF 6 4 S=0:=by unfold zAy;rw [if_pos (by decide),if_neg (by omega)]
 have:rdE stdF 6 4 S=E:=by unfold rdE;rw [if_pos h0,hE]
 simp only;rw [this]
theorem zSt (hA:Fgs w A 10 stdF) (hc:10≤c) {B:Option Addr} {m d:Nat} (hB:Lets w B m (exL 1)) (ht:Tabs w) :
  Calls Tryz.prog 33 #[frV A 10 c 6 4,.agg #[.int .i64 10,.slice B m d]] w fun e w'=>e=.returned (.tuple #[.string (bA exS),.int .i64 0])∧Below w.heap.size w w':=by
 have h:=zHM A 10 c stdF 6 4 10 B m d (exL 1) w hA hc hB ht;rw [zTp.1,zTp.2] at h;exact h
theorem zSu {B:Option Addr} {m d:Nat} (hB:Lets w B m (exL 1)) :
  Calls Tryz.prog 50 #[.agg #[.int .i64 10,.slice B m d]] w fun e w'=>e=.returned (.string (bA exP))∧Below w.heap.size w w':=by
 have h:=zLY 10 B m d (exL 1) w hB (by have:=hB.len;simp [exL] at this;omega) (zBe (by decide) (by decide));rw [zSo] at h;exact h
end
theorem zSv {w:World} {base:Nat} {B:Option Addr} {m d:Nat} {Es:List Ce} (h:CodesOwn w base 10 B m d Es) (hE:List.map (fun x:Ce=>x.L) Es=[exL 1]) :
  m=1∧∃(g o:Nat) (e:Ce),B=some ⟨g,o,none⟩∧g < w.heap.size∧w.cell? ⟨g,o,none⟩=some (.int .i64 10)∧w.cell? ⟨g,o+1,none⟩=some (.slice e.A e.n e.c)∧Lets w e.A e.n (exL 1):=by
 have hl:=h.len;rcases Es with _ | ⟨e,_ | ⟨e2,Es⟩⟩
 ·simp at hE
 ·simp only [List.map_cons,List.map_nil,List.cons.injEq,and_true] at hE;obtain rfl:m=1:=hl.symm;obtain ⟨g,o,rfl,_,hlt⟩:=h.row.form (by omega);have hL:=(h.ok e (List.mem_singleton.2 rfl)).1;rw [hE] at hL;exact ⟨rfl,g,o,e,rfl,hlt,h.row.cell (j:=0) rfl,h.row.cell (j:=1) rfl,hL⟩
 ·simp at hE
set_option maxRecDepth 100000 in
set_option maxHeartbeats 12800000 in
theorem zCv (w:World) (ht:Tabs w):Calls Tryz.prog 16 #[] w fun e w'=>e=.returned (.bool true)∧Below w.heap.size w w':=by
 have HT:=qH ht;clear ht;go_enter Tryz.func16,Tryz.ntmps16;go_wp2_with fail
 refine (zJv _).mono ?_;rintro e w1 ⟨A,c,rfl,hrow,hb⟩;have hcap:10≤c:=hrow.cap;have HF:=qH (show Fgs w1 A 10 stdF from ⟨(show Row w1 w.heap.size 3 A 10 c (stdF.flatMap zWL) from hrow).els (fun _=>rfl) (by omega) (by omega),zWq⟩);replace HT:=qH (HT.out.below hb);have HB:=qH hb;have po:=qH hcap;clear hrow hb hcap;have hba:=(Below.refl w1.heap.size w1).alloc (Nat.le_refl _) (.cells #[.slice A 10 c,.int .i64 6,.int .i64 4] 24);replace HF:=qH (HF.out.below hba);replace HT:=qH (HT.out.below hba);replace HB:=qH (zAa HB.out hba HB.out.size);have kf:=Blk.new w1 24 #[.slice A 10 c,.int .i64 6,.int .i64 4];clear hba;go_upto_region 2 with fail
 generalize w1.alloc (.cells #[.slice A 10 c,.int .i64 6,.int .i64 4] 24)=X1 at HF HT HB kf ⊢;have hba:=(Below.refl X1.heap.size X1).alloc (Nat.le_refl _) (.cells #[.int .i64 6,.int .i64 1,.bool false,.int .i64 0,.bool true] 86);replace HF:=qH (HF.out.below hba);replace HT:=qH (HT.out.below hba);replace HB:=qH (zAa HB.out hba HB.out.size);replace kf:=kf.below hba kf.lt;have HP:=qH (Stps.one X1 ⟨⟨6,1,false,0⟩,true⟩ ⟨zBe (by decide) (by decide),zBe (by decide) (by decide),zBe (by decide) (by decide)⟩ 86);have ko:Blk ((X1.alloc (.cells #[.int .i64 6,.int .i64 1,.bool false,.int .i64 0,.bool true] 86)).alloc (.cells #[.int .i64 3,.int .i64 9,.int .i64 5,.int .i64 1,.bool false,.int .i64 0,.slice (some ⟨X1.heap.size,0,none⟩) 1 1,.bool false] 32)) (X1.heap.size+1) 32 #[.int .i64 3,.int .i64 9,.int .i64 5,.int .i64 1,.bool false,.int .i64 0,.slice (some ⟨X1.heap.size,0,none⟩) 1 1,.bool false]:=heap_alloc2_new X1 _ _;clear hba;have hba:=(Below.refl (X1.alloc (.cells #[.int .i64 6,.int .i64 1,.bool false,.int .i64 0,.bool true] 86)).heap.size (X1.alloc (.cells #[.int .i64 6,.int .i64 1,.bool false,.int .i64 0,.bool true] 86))).alloc (Nat.le_refl _) (.cells #[.int .i64 3,.int .i64 9,.int .i64 5,.int .i64 1,.bool false,.int .i64 0,.slice (some ⟨X1.heap.size,0,none⟩) 1 1,.bool false] 32);replace HF:=qH (HF.out.below hba);replace HT:=qH (HT.out.below hba);replace HB:=qH (zAa HB.out hba HB.out.size);replace kf:=kf.below hba kf.lt;replace HP:=qH (HP.out.below hba);clear hba;go_upto_region 3 with fail
 generalize (X1.alloc (.cells #[.int .i64 6,.int .i64 1,.bool false,.int .i64 0,.bool true] 86)).alloc (.cells #[.int .i64 3,.int .i64 9,.int .i64 5,.int .i64 1,.bool false,.int .i64 0,.slice (some ⟨X1.heap.size,0,none⟩) 1 1,.bool false] 32)=X2 at HF HT HB kf HP ko ⊢;obtain ⟨c0,c1,c2⟩:=cQ3 kf;obtain ⟨d0,d1,d2,d3,d4,d5,d6,d7⟩:=cQ8 ko;go_wp2_with fail
 refine (zSq HF.out po.out (some ⟨X1.heap.size,0,none⟩) ⟨zWr,HP.out,by omega⟩ HT.out).mono ?_;rintro e w2 ⟨rfl,hb⟩;clear c0 c1 c2 d0 d1 d2 d3 d4 d5 d6 d7;replace HF:=qH (HF.out.below hb);replace HT:=qH (HT.out.below hb);replace HB:=qH (zAa HB.out hb HB.out.size);replace kf:=kf.below hb kf.lt;replace HP:=qH (HP.out.below hb);replace ko:=ko.below hb ko.lt;clear hb;clear ko HP;obtain ⟨c0,c1,c2⟩:=cQ3 kf;go_wp2_with fail
 refine (zSr HF.out po.out HT.out).mono ?_;rintro e w3 ⟨rfl,hb⟩;clear c0 c1 c2;replace HF:=qH (HF.out.below hb);replace HT:=qH (HT.out.below hb);replace HB:=qH (zAa HB.out hb HB.out.size);replace kf:=kf.below hb kf.lt;clear hb;obtain ⟨c0,c1,c2⟩:=cQ3 kf;go_wp2_with fail
 refine (zSs HF.out po.out HT.out).mono ?_;rintro e w4 ⟨B,m,d,Es,rfl,hE,hm,hO,hb⟩;clear c0 c1 c2;replace HF:=qH (HF.out.below hb);replace HT:=qH (HT.out.below hb);replace HB:=qH (zAa HB.out hb HB.out.size);replace kf:=kf.below hb kf.lt;obtain ⟨rfl,g,o,⟨eL,eA,en,ec⟩,rfl,hg,q0,q1,hL⟩:=zSv hO hE;simp only at q1 hL;have HQ:=qH (show g < w4.heap.size∧w4.cell? ⟨g,o,none⟩=some (.int .i64 10)∧w4.cell? ⟨g,o+1,none⟩=some (.slice eA en ec) from ⟨hg,q0,q1⟩);have HL:=qH hL;clear hE hm hO hb hg q0 q1 hL;obtain ⟨c0,c1,c2⟩:=cQ3 kf;go_wp2_with fail
 refine (zNc zXv 6 (zUV stdF) (by decide) HF.out po.out HT.out).mono ?_;rintro e w5 ⟨⟨ok,of,⟨off,ofl,ofar,opc⟩,opath,oov⟩,oB,om,od,rfl,hb⟩;simp only;clear c0 c1 c2;replace HF:=qH (HF.out.below hb);replace HT:=qH (HT.out.below hb);replace HB:=qH (zAa HB.out hb HB.out.size);replace kf:=kf.below hb kf.lt;replace HL:=qH (HL.out.below hb);replace HQ:=qH (show g < w5.heap.size∧w5.cell? ⟨g,o,none⟩=some (.int .i64 10)∧w5.cell? ⟨g,o+1,none⟩=some (.slice eA en ec) from ⟨Nat.lt_of_lt_of_le HQ.out.1 hb.size,(hb.cell (p:=⟨g,o,none⟩) HQ.out.1).trans HQ.out.2.1,(hb.cell (p:=⟨g,o+1,none⟩) HQ.out.1).trans HQ.out.2.2⟩);clear hb;have hba:=(Below.refl w5.heap.size w5).alloc (Nat.le_refl _) (.cells #[.int .i64 ok,.int .i64 of,.int .i64 off,.int .i64 ofl,.bool ofar,.int .i64 opc,.slice oB om od,.bool oov] 32);replace HF:=qH (HF.out.below hba);replace HT:=qH (HT.out.below hba);replace HB:=qH (zAa HB.out hba HB.out.size);replace kf:=kf.below hba kf.lt;replace HL:=qH (HL.out.below hba);replace HQ:=qH (show g < (w5.alloc (.cells #[.int .i64 ok,.int .i64 of,.int .i64 off,.int .i64 ofl,.bool ofar,.int .i64 opc,.slice oB om od,.bool oov] 32)).heap.size∧(w5.alloc (.cells #[.int .i64 ok,.int .i64 of,.int .i64 off,.int .i64 ofl,.bool ofar,.int .i64 opc,.slice oB om od,.bool oov] 32)).cell? ⟨g,o,none⟩=some (.int .i64 10)∧(w5.alloc (.cells #[.int .i64 ok,.int .i64 of,.int .i64 off,.int .i64 ofl,.bool ofar,.int .i64 opc,.slice oB om od,.bool oov] 32)).cell? ⟨g,o+1,none⟩=some (.slice eA en ec) from ⟨Nat.lt_of_lt_of_le HQ.out.1 hba.size,(hba.cell (p:=⟨g,o,none⟩) HQ.out.1).trans HQ.out.2.1,(hba.cell (p:=⟨g,o+1,none⟩) HQ.out.1).trans HQ.out.2.2⟩);clear hba;go_upto_region 7 with fail
 generalize w5.alloc (.cells #[.int .i64 ok,.int .i64 of,.int .i64 off,.int .i64 ofl,.bool ofar,.int .i64 opc,.slice oB om od,.bool oov] 32)=Z0 at HF HT HB kf HL HQ ⊢;obtain ⟨c0,c1,c2⟩:=cQ3 kf;go_wp2_with fail
 refine (zNc zXw 8 (zUW) (by decide) HF.out po.out HT.out).mono ?_;rintro e w6 ⟨⟨ok,of,⟨off,ofl,ofar,opc⟩,opath,oov⟩,oB,om,od,rfl,hb⟩;simp only;clear c0 c1 c2;replace HF:=qH (HF.out.below hb);replace HT:=qH (HT.out.below hb);replace HB:=qH (zAa HB.out hb HB.out.size);replace kf:=kf.below hb kf.lt;replace HL:=qH (HL.out.below hb);replace HQ:=qH (show g < w6.heap.size∧w6.cell? ⟨g,o,none⟩=some (.int .i64 10)∧w6.cell? ⟨g,o+1,none⟩=some (.slice eA en ec) from ⟨Nat.lt_of_lt_of_le HQ.out.1 hb.size,(hb.cell (p:=⟨g,o,none⟩) HQ.out.1).trans HQ.out.2.1,(hb.cell (p:=⟨g,o+1,none⟩) HQ.out.1).trans HQ.out.2.2⟩);clear hb;have hba:=(Below.refl w6.heap.size w6).alloc (Nat.le_refl _) (.cells #[.int .i64 ok,.int .i64 of,.int .i64 off,.int .i64 ofl,.bool ofar,.int .i64 opc,.slice oB om od,.bool oov] 32);replace HF:=qH (HF.out.below hba);replace HT:=qH (HT.out.below hba);replace HB:=qH (zAa HB.out hba HB.out.size);replace kf:=kf.below hba kf.lt;replace HL:=qH (HL.out.below hba);replace HQ:=qH (show g < (w6.alloc (.cells #[.int .i64 ok,.int .i64 of,.int .i64 off,.int .i64 ofl,.bool ofar,.int .i64 opc,.slice oB om od,.bool oov] 32)).heap.size∧(w6.alloc (.cells #[.int .i64 ok,.int .i64 of,.int .i64 off,.int .i64 ofl,.bool ofar,.int .i64 opc,.slice oB om od,.bool oov] 32)).cell? ⟨g,o,none⟩=some (.int .i64 10)∧(w6.alloc (.cells #[.int .i64 ok,.int .i64 of,.int .i64 off,.int .i64 ofl,.bool ofar,.int .i64 opc,.slice oB om od,.bool oov] 32)).cell? ⟨g,o+1,none⟩=some (.slice eA en ec) from ⟨Nat.lt_of_lt_of_le HQ.out.1 hba.size,(hba.cell (p:=⟨g,o,none⟩) HQ.out.1).trans HQ.out.2.1,(hba.cell (p:=⟨g,o+1,none⟩) HQ.out.1).trans HQ.out.2.2⟩);clear hba;go_upto_region 8 with fail
 generalize w6.alloc (.cells #[.int .i64 ok,.int .i64 of,.int .i64 off,.int .i64 ofl,.bool ofar,.int .i64 opc,.slice oB om od,.bool oov] 32)=Z1 at HF HT HB kf HL HQ ⊢;go_upto_region 10 with fail
 go_cut [13,4] (fun tx v4 wv=>tx=.string (bA exS)∧v4=.int .i64 0∧∃V:World,V=wv∧Below Z1.heap.size Z1 V)
 case first =>
  have k0:∀wx,Below Z1.heap.size Z1 wx→(Below Z1.heap.size Z1 wx∧wx.cell? ⟨w1.heap.size,0,none⟩=some (.slice A 10 c)∧wx.cell? ⟨w1.heap.size,1,none⟩=some (.int .i64 6)∧wx.cell? ⟨w1.heap.size,2,none⟩=some (.int .i64 4)∧wx.cell? ⟨g,o,none⟩=some (.int .i64 10)∧wx.cell? ⟨g,o+1,none⟩=some (.slice eA en ec)):=fun wx h=>⟨h,((kf.below h kf.lt).cell 0).trans rfl,((kf.below h kf.lt).cell 1).trans rfl,((kf.below h kf.lt).cell 2).trans rfl,(h.cell (p:=⟨g,o,none⟩) HQ.out.1).trans HQ.out.2.1,(h.cell (p:=⟨g,o+1,none⟩) HQ.out.1).trans HQ.out.2.2⟩
  have KP:=qH k0;clear k0
  first
   | go_region_held3 (fun wx=>Below Z1.heap.size Z1 wx∧wx.cell? ⟨w1.heap.size,0,none⟩=some (.slice A 10 c)∧wx.cell? ⟨w1.heap.size,1,none⟩=some (.int .i64 6)∧wx.cell? ⟨w1.heap.size,2,none⟩=some (.int .i64 4)∧wx.cell? ⟨g,o,none⟩=some (.int .i64 10)∧wx.cell? ⟨g,o+1,none⟩=some (.slice eA en ec)) (first | assumption | exact KP.out _ (Below.refl _ _).drew | exact KP.out _ (zAa (And.left (by assumption)) (by assumption) (Below.size (And.left (by assumption)))))
     (first
      | (go_at_call 33;refine (zSt (HF.out.below (And.left (by assumption))) po.out (HL.out.below (And.left (by assumption))) (HT.out.below (And.left (by assumption)))).mono ?_;rintro e zz ⟨rfl,hzz⟩))
   | fail
  all_goals
   have hbf:=And.left (show Below Z1.heap.size Z1 _∧_ by assumption);go_wp2_with fail
   go_meet
   case rel=>exact ⟨rfl,rfl,_,rfl,hbf⟩
 case rest =>
  obtain ⟨rfl,rfl,V,hV,hb⟩:=hcut;subst hV;replace HF:=qH (HF.out.below hb);replace HT:=qH (HT.out.below hb);replace HB:=qH (zAa HB.out hb HB.out.size);replace kf:=kf.below hb kf.lt;replace HL:=qH (HL.out.below hb);replace HQ:=qH (show g < V.heap.size∧V.cell? ⟨g,o,none⟩=some (.int .i64 10)∧V.cell? ⟨g,o+1,none⟩=some (.slice eA en ec) from ⟨Nat.lt_of_lt_of_le HQ.out.1 hb.size,(hb.cell (p:=⟨g,o,none⟩) HQ.out.1).trans HQ.out.2.1,(hb.cell (p:=⟨g,o+1,none⟩) HQ.out.1).trans HQ.out.2.2⟩);clear hb;have Eh:((bA zXx).toList==[112,105,99,107,32,82,50,32,111,118,101,114,32,82,53,32,110,101,97,114,32,108,111,111,112,32,49,44,32,102,114,111,109,32,76,53,32,110,101,97,114,32,108,111,111,112,32,49])=true:=by rw [zAn];decide
  have Eg:((bA zXy).toList==[112,105,99,107,32,82,50,32,111,118,101,114,32,82,53,32,110,101,97,114,44,32,102,114,111,109,32,76,53,32,110,101,97,114,10])=true:=by rw [zAn];decide
  have texP:((bA exP).toList==[49,48,58,32,49,46,49,32,48,46,49,32,49,117,43,32,57,46,49,32,49,48,46,49,32,49,111,43])=true:=by rw [zAn];decide
  have texS:((bA exS).toList==[76,49,46,49,60,32,49,117,32,82,49,46,49,62,32,49,111])=true:=by rw [zAn];decide
  have q0:=HQ.out.2.1;have q1:=HQ.out.2.2;go_wp2_with fail
  refine (zSu HL.out).mono ?_;rintro e V2 ⟨rfl,hb⟩;clear q0 q1;replace HF:=qH (HF.out.below hb);replace HT:=qH (HT.out.below hb);replace HB:=qH (zAa HB.out hb HB.out.size);replace kf:=kf.below hb kf.lt;replace HL:=qH (HL.out.below hb);clear hb;go_wp2_with fail
  go_ret;exact ⟨rfl,HB.out⟩
theorem zVe:∀x∈AL,FgOk x:=fun x hx=>by
 unfold AL at hx;obtain ⟨p,hp,hx⟩:=List.mem_flatMap.1 hx;obtain ⟨d,hd,hx⟩:=List.mem_flatMap.1 hx;have hp:=List.mem_range.1 hp;have hd:=List.mem_range.1 hd;simp only [List.mem_cons,List.not_mem_nil,or_false] at hx;rcases hx with rfl | rfl<;>exact ⟨zBe (by simp only;omega) (by simp only;omega),zBe (by simp only;omega) (by simp only;omega)⟩
theorem zIq {w:World} {base:Nat} {A:Option Addr} {c:Nat} (h:Row w base 3 A 126 c (AL.flatMap fgC)):Fgs w A 126 AL :=
 ⟨h.els (enc:=zWL) (fun _=>rfl) (by omega) (by omega),zVe⟩
theorem zKI {A:Option Addr} {n:Nat} {L:List Fg} {f:Fg} {k:Nat} (h:zAK L f=k) (c:Nat) (re lo:Int) (w:World) (hA:Fgs w A n L) :
  Calls Tryz.prog 53 #[.agg #[.slice A n c,.int .i64 re,.int .i64 lo],.agg #[.int .i64 f.p,.bool f.r,.int .i64 f.d]] w fun e w'=>e=.returned (.int .i64 (k:Int))∧Below w.heap.size w w':=by
 subst h;exact zHY A n c L re lo f w hA
set_option maxHeartbeats 1600000 in
theorem zLZ (S:List UInt8) (w:World) :
  Calls Tryz.prog 99 #[.string (bA S)] w fun e w'=>e=.returned (.int .i64 (fnA S:Int))∧Below w.heap.size w w':=by
 have HP:=qH (zHP S)
 cases hp:zGb S with
 | none =>
  have HR:=qH (show fnA S=0 by unfold fnA zDj;rw [hp]);simp only [hp,zVc,df] at HP;clear hp;go_enter Tryz.func99,Tryz.ntmps99;go_wp2_with fail
  refine (HP.out _).mono ?_;rintro e X ⟨rfl,hb⟩;have ai:Below w.heap.size w (X.alloc (.cells #[.int .i64 0,.bool false,.int .i64 0] 90)):=hb.alloc hb.size _;have HB:=qH ai;clear hb ai;go_wp2_with fail
  go_ret;exact ⟨zFs (by rw [HR.out];rfl),HB.out⟩
 | some f =>
  obtain ⟨k,hk⟩:∃k,zAK AL f=k:=⟨_,rfl⟩
  have HR:=qH (show fnA S=k by unfold fnA zDj;rw [hp];exact hk);have HK:=qH hk;simp only [hp,zVc] at HP;obtain ⟨p,r,d⟩:=f;clear hp hk;go_enter Tryz.func99,Tryz.ntmps99;go_wp2_with fail
  refine (HP.out _).mono ?_;rintro e X ⟨rfl,hb⟩;have ai:Below w.heap.size w (X.alloc (.cells #[.int .i64 p,.bool r,.int .i64 d] 90)):=hb.alloc hb.size _;have cc:Blk (X.alloc (.cells #[.int .i64 p,.bool r,.int .i64 d] 90)) X.heap.size 90 #[.int .i64 p,.bool r,.int .i64 d]:=Blk.new _ _ _;go_upto_region 4 with fail
  generalize X.alloc (.cells #[.int .i64 p,.bool r,.int .i64 d] 90)=Y at ai cc ⊢;generalize X.heap.size=b3 at cc ⊢;have HB:=qH ai;have GK:=qH cc;have y0:Y.cell? ⟨b3,0,none⟩=some (.int .i64 p):=(cc.cell 0).trans rfl;have y1:Y.cell? ⟨b3,1,none⟩=some (.bool r):=(cc.cell 1).trans rfl;have y2:Y.cell? ⟨b3,2,none⟩=some (.int .i64 d):=(cc.cell 2).trans rfl;clear hb ai cc HP
  go_region_with (first
   | (go_at_call 56;refine (zGE _).mono ?_;rintro e wa ⟨A2,c2,rfl,nh,hba⟩;have hbd:Below Y.heap.size Y wa:=zAa ((Below.refl Y.heap.size Y).drew) hba (Nat.le_refl _);have hka:=GK.out.below hbd GK.out.lt;have z0:wa.cell? ⟨b3,0,none⟩=some (.int .i64 p):=(hka.cell 0).trans rfl;have z1:wa.cell? ⟨b3,1,none⟩=some (.bool r):=(hka.cell 1).trans rfl;have z2:wa.cell? ⟨b3,2,none⟩=some (.int .i64 d):=(hka.cell 2).trans rfl;have HFA:=qH (zIq nh);clear nh hba hka)
   | (go_at_call 53;refine (zKI HK.out _ _ _ _ HFA.out).mono ?_;rintro e wb ⟨rfl,hbb⟩))
  all_goals
   have hbf:=zAa (zAa HB.out hbd HB.out.size) hbb (Nat.le_trans HB.out.size hbd.size);go_wp2_with fail
   go_ret;exact ⟨zFs (by rw [HR.out]),hbf⟩
end Go.Proofs.YtlmdfmnbcndhoaaGreatDoor
