/-
  Lemmas, part 42. Conditions: each theorem's own.
-/
import Derived.Test.YtlmdfmnbcndhoaaGreatDoorRl40
namespace Go.Proofs.YtlmdfmnbcndhoaaGreatDoor
open Go.RowKit
theorem Els.src {α:Type} {sz:Nat} {enc:α→List Value} {w:World} {A:Option Addr} {n:Nat} {L:List α} (h:Els sz enc w A n L) (hz:∀x,(enc x).length=sz) (h0:0 < sz):Src w sz A n (L.flatMap enc):=by
 have hl:(L.flatMap enc).length=n*sz:=by rw [zCc enc sz hz,h.len]
 refine ⟨hl,fun hn=>?_⟩;obtain ⟨g,o,rfl,hg,hc⟩:=h.2.2 hn;refine ⟨_,rfl,hg,fun j u hu=>?_⟩;have hjl:j < n*sz:=by rw [←hl];exact (List.getElem?_eq_some_iff.1 hu).1
 have hd:j / sz < L.length:=by rw [h.len];exact Nat.div_lt_of_lt_mul (by rw [Nat.mul_comm];exact hjl)
 have hx:L[j / sz]? = some L[j / sz]:=List.getElem?_eq_getElem hd;have hf:=zFy enc sz hz L (j / sz) (j % sz) _ hx (Nat.mod_lt _ h0);have e:j / sz*sz+j % sz=j:=by rw [Nat.mul_comm];exact Nat.div_add_mod j sz
 rw [e,hu] at hf;have:=hc (j / sz) _ hx (j % sz) u hf.symm;rw [Addr.add_lit]
 rwa [Nat.add_assoc,e] at this
set_option maxHeartbeats 1600000 in
set_option maxRecDepth 100000 in
theorem zOa (A:Option Addr) (n c:Nat) (L:List Fg) (re lo:Int) (B:Option Addr) (d:Nat) (f:Int) (b:Bool) (w:World) (hA:Fgs w A n L) (hB:Fgs w B 126 AL) (h1:1≤f) (h2:f≤126) :
  Calls Tryz.prog 103 #[frV A n c re lo,frV B 126 d 0 1,.int .i64 f,.bool b] w fun e w'=>e=.returned (.tuple #[.int .i64 (plA L f),.bool (b&&decide (0 < plA L f))])∧Below w.heap.size w w':=by
 have ah:Below w.heap.size w ((w.alloc (.cells #[.slice A n c,.int .i64 re,.int .i64 lo] 24)).alloc (.cells #[.slice B 126 d,.int .i64 0,.int .i64 1] 24)):=((Below.refl _ _).alloc (Nat.le_refl _) _).alloc (by simp) _;have hk0:Blk ((w.alloc (.cells #[.slice A n c,.int .i64 re,.int .i64 lo] 24)).alloc (.cells #[.slice B 126 d,.int .i64 0,.int .i64 1] 24)) w.heap.size 24 #[.slice A n c,.int .i64 re,.int .i64 lo]:=(Blk.new w _ _).alloc _;have aq:Blk ((w.alloc (.cells #[.slice A n c,.int .i64 re,.int .i64 lo] 24)).alloc (.cells #[.slice B 126 d,.int .i64 0,.int .i64 1] 24)) (w.heap.size+1) 24 #[.slice B 126 d,.int .i64 0,.int .i64 1]:=heap_alloc2_new w _ _;have jJ:=hA.below ah;have iv:=hB.below ah;obtain ⟨i,hi⟩:∃i:Nat,f=(i:Int)+1:=⟨(f-1).toNat,by omega⟩
 have hin:i < 126:=by omega
 obtain ⟨g,o,rfl,hg,⟨x0,x1,x2⟩,_⟩:=iv.at_ hin;obtain ⟨k,hk⟩:∃k,zAK L (fa AL i)=k:=⟨_,rfl⟩
 have hpl:plA L f=(k:Int):=by unfold plA;rw [hi,show ((i:Int)+1-1).toNat=i by omega,hk]
 rw [hpl];have q0:IntKind.i64.wrap (i:Int)=(i:Int):=IntWalk.i64_in _ (by omega);have q2:f-1=(i:Int):=by omega
 have j0:(0:Int)≤(i:Int):=by omega
 have j1:(i:Int) < 126:=by omega
 generalize fa AL i=x at x0 x1 x2 hk;have qw:=qH hk;go_enter Tryz.func103,Tryz.ntmps103;go_wp2_with fail
 generalize ((w.alloc (.cells #[.slice A n c,.int .i64 re,.int .i64 lo] 24)).alloc (.cells #[.slice (some ⟨g,o,none⟩) 126 d,.int .i64 0,.int .i64 1] 24))=X at ah hk0 aq jJ iv hg x0 x1 x2 ⊢;have c0:X.cell? ⟨w.heap.size,0,none⟩=some (.slice A n c):=(hk0.cell 0).trans rfl;have c1:X.cell? ⟨w.heap.size,1,none⟩=some (.int .i64 re):=(hk0.cell 1).trans rfl;have c2:X.cell? ⟨w.heap.size,2,none⟩=some (.int .i64 lo):=(hk0.cell 2).trans rfl;have d0:X.cell? ⟨w.heap.size+1,0,none⟩=some (.slice (some ⟨g,o,none⟩) 126 d):=(aq.cell 0).trans rfl;have gL:=qH jJ;have eB:=qH ah;have eZ:=qH (show w.heap.size < X.heap.size∧w.heap.size+1 < X.heap.size∧g < X.heap.size from ⟨hk0.lt,aq.lt,hg⟩);clear hA hB jJ iv ah hk0 aq hg hi hk hpl h1 h2;have KP:=qH (show ∀wx,Below X.heap.size X wx→(Below X.heap.size X wx∧wx.cell? ⟨w.heap.size,0,none⟩=some (.slice A n c)∧wx.cell? ⟨w.heap.size,1,none⟩=some (.int .i64 re)∧wx.cell? ⟨w.heap.size,2,none⟩=some (.int .i64 lo)∧wx.cell? ⟨w.heap.size+1,0,none⟩=some (.slice (some ⟨g,o,none⟩) 126 d)∧wx.cell? ⟨g,o+i*3,none⟩=some (.int .i64 x.p)∧wx.cell? ⟨g,o+i*3+1,none⟩=some (.bool x.r)∧wx.cell? ⟨g,o+i*3+2,none⟩=some (.int .i64 x.d)) from fun wx h=>⟨h,(h.cell (p:=⟨w.heap.size,0,none⟩) eZ.out.1).trans c0,(h.cell (p:=⟨w.heap.size,1,none⟩) eZ.out.1).trans c1,(h.cell (p:=⟨w.heap.size,2,none⟩) eZ.out.1).trans c2,(h.cell (p:=⟨w.heap.size+1,0,none⟩) eZ.out.2.1).trans d0,(h.cell (p:=⟨g,o+i*3,none⟩) eZ.out.2.2).trans x0,(h.cell (p:=⟨g,o+i*3+1,none⟩) eZ.out.2.2).trans x1,(h.cell (p:=⟨g,o+i*3+2,none⟩) eZ.out.2.2).trans x2⟩);go_upto_region 1 with fail
 go_cut [10] (fun mR wv=>mR=.int .i64 (k:Int)∧∃V:World,V=wv∧Below X.heap.size X V)
 case first =>
  go_region_held3 (fun wx=>Below X.heap.size X wx∧wx.cell? ⟨w.heap.size,0,none⟩=some (.slice A n c)∧wx.cell? ⟨w.heap.size,1,none⟩=some (.int .i64 re)∧wx.cell? ⟨w.heap.size,2,none⟩=some (.int .i64 lo)∧wx.cell? ⟨w.heap.size+1,0,none⟩=some (.slice (some ⟨g,o,none⟩) 126 d)∧wx.cell? ⟨g,o+i*3,none⟩=some (.int .i64 x.p)∧wx.cell? ⟨g,o+i*3+1,none⟩=some (.bool x.r)∧wx.cell? ⟨g,o+i*3+2,none⟩=some (.int .i64 x.d)) (first | with_reducible assumption | with_reducible exact KP.out _ (Below.refl _ _) | with_reducible exact KP.out _ (Below.refl _ _).drew | with_reducible exact KP.out _ (And.left (by assumption)) | with_reducible exact KP.out _ (Below.drew (And.left (by assumption))))
   (first | (go_at_call 53;refine (zKI qw.out c re lo _ (gL.out.below (And.left (by assumption)))).mono ?_;rintro e wd ⟨rfl,hbd⟩;have hbq:Below X.heap.size X wd:=zAa (And.left (by assumption)) hbd (Below.size (And.left (by assumption)));have hkk:=KP.out wd hbq))
  all_goals
   have hbf:=And.left (show Below X.heap.size X _∧_ by assumption);go_wp2_with fail
   go_meet
   case rel=>exact ⟨rfl,_,rfl,hbf⟩
 case rest =>
  obtain ⟨rfl,V,hV,hbv⟩:=hcut;subst hV;have kX:=qH (zAa eB.out hbv eB.out.size);clear hbv
  cases b with
  | false =>
   go_wp2_with fail
   go_ret2;exact ⟨rfl,kX.out⟩
  | true =>
   by_cases h0:(0:Int) < (k:Int)
   ·go_wp2_with fail
    go_ret2;exact ⟨by simp,kX.out⟩
   ·go_wp2_with fail
    go_ret2;exact ⟨by simp,kX.out⟩
theorem zFl {L:List Fg} {f v:Int} {b q:Bool} (hv:plA L f=v) (hq:(b&&decide (0 < v))=q) {A:Option Addr} {n c:Nat} {re lo:Int} {B:Option Addr} {d:Nat} (w:World) (hA:Fgs w A n L) (hB:Fgs w B 126 AL) (h1:1≤f) (h2:f≤126) :
  Calls Tryz.prog 103 #[frV A n c re lo,frV B 126 d 0 1,.int .i64 f,.bool b] w fun e w'=>e=.returned (.tuple #[.int .i64 v,.bool q])∧Below w.heap.size w w':=by
 subst hv;subst hq;exact zOa A n c L re lo B d f b w hA hB h1 h2
theorem dupP {w:World} {ops:Array Oper} {rest:List Oper} {o:Oper} {a:Act} {Q:Exit→Act→World→Prop} (hgd:o.guard=none) (s x:Operand)
  (ho:o.op=.call { callee:=.builtin .append,args:=#[s,x],argTypes:=#[30,30] })
  {B:Option Addr} {m d:Nat} {P:List Sp} (hP:Els 5 zCa w B m P) (hs:a.eval s=.slice none 0 0) (hx:a.eval x=.slice B m d) (hm:m≤1000000) (base:Nat) (hbase:base≤w.heap.size)
  (h:∀A' c' w',Row w' base 5 A' m c' (P.flatMap zCa)→Below w.heap.size w w'→wpList Tryz.prog ops Q rest (a.put o.dst (.slice A' m c')) w') :
  wpList Tryz.prog ops Q (o :: rest) a w:=by
 obtain ⟨i0,hi,ci,be,cH⟩:=info_parts zKl
 refine zQL hgd s x 30 ho 86 i0 _ 5 40 Tryz.underlying30 hi ci be cH rfl (by decide) (Row.none_ w base 5) (hP.src (fun _=>rfl) (by omega))
  (by intro u hu;obtain ⟨y,_,hy⟩:=List.mem_flatMap.1 hu;simp [zCa] at hy;rcases hy with rfl | rfl | rfl | rfl | rfl<;>rfl) hs hx m (by omega) (by unfold maxLen;omega) (by omega) hbase ?_
 intro A' c' w' h1 h2 _ _;refine h A' c' w' (by simpa using h1) ?_;exact (Below.refl _ _).grown ⟨h2.os,h2.tape,h2.output,h2.size,h2.block⟩ (Nat.le_refl _) (fun k hk=>by cases hk)
theorem Row.store8of {w:World} {base g sz:Nat} {A:Option Addr} {n c:Nat} {xs:List Value} (h:Row w base sz A n c xs) (hf:∀k,blk A=some k→k≠g) (u0 u1 u2 u3 u4 u5 u6 u7:Value) :
  Row ((((((((w.setCell ⟨g,0,none⟩ u0).setCell ⟨g,1,none⟩ u1).setCell ⟨g,2,none⟩ u2).setCell ⟨g,3,none⟩ u3).setCell ⟨g,4,none⟩ u4).setCell ⟨g,5,none⟩ u5).setCell ⟨g,6,none⟩ u6).setCell ⟨g,7,none⟩ u7) base sz A n c xs :=
 (((((((h.farSet 0 u0 hf).farSet 1 u1 hf).farSet 2 u2 hf).farSet 3 u3 hf).farSet 4 u4 hf).farSet 5 u5 hf).farSet 6 u6 hf).farSet 7 u7 hf
def SetGives (w0:World) (o:Og) (b:Bool) (e:Ending) (w':World):Prop :=
 ∃B m d,e=.returned (.tuple #[opV o B m d,.bool b])∧Row w' w0.heap.size 5 B m d (o.path.flatMap zCa)∧m=o.path.length∧Below w0.heap.size w0 w'
theorem SetGives.of {w0 w':World} {o:Og} {q b:Bool} {B:Option Addr} {m d:Nat} (hq:q=b) (hrow:Row w' w0.heap.size 5 B m d (o.path.flatMap zCa)) (hm:m=o.path.length) (hb:Below w0.heap.size w0 w') :
  SetGives w0 o b (.returned (.tuple #[opV o B m d,.bool q])) w':=by
 subst hq;exact ⟨B,m,d,rfl,hrow,hm,hb⟩
def zHz (L:List Fg) (P:List Sp) (i:Nat):List Sp:=(P.take i).map (zOr L)++P.drop i
def zSx (L:List Fg) (P:List Sp) (b:Bool) (i:Nat):Bool:=b&&(P.take i).all fun x=>decide (0 < plA L x.s.f)
theorem zOb (L:List Fg) (P:List Sp):zHz L P 0=P:=by simp [zHz]
theorem zQv (L:List Fg) (P:List Sp):zHz L P P.length=P.map (zOr L):=by simp [zHz]
theorem zNd (x:Sp):(zCa x).length=5:=rfl
theorem zSy (L:List Fg) {P:List Sp} {i:Nat} {x:Sp} (h:P[i]? = some x):(zHz L P i)[i]? = some x∧((zHz L P i).flatMap zCa).set (i*5) (.int .i64 (plA L x.s.f))=(zHz L P (i+1)).flatMap zCa:=by
 have hi:=(List.getElem?_eq_some_iff.1 h).1;have hd:P.drop i=x :: P.drop (i+1):=by
  rw [List.drop_eq_getElem_cons hi]
  congr 1
  rw [List.getElem?_eq_getElem hi] at h;injection h
 have hl:((P.take i).map (zOr L)).length=i:=by rw [List.length_map,List.length_take];omega
 constructor
 ·unfold zHz;rw [List.getElem?_append_right (by omega),hl,Nat.sub_self,hd];rfl
 ·unfold zHz;rw [hd,List.take_add_one,h,List.map_append,List.flatMap_append,List.flatMap_append,List.flatMap_append];have h5:(((P.take i).map (zOr L)).flatMap zCa).length=i*5:=by rw [zCc zCa 5 zNd,hl]
  rw [List.set_append_right _ _ (by omega),h5,Nat.sub_self];simp [zCa,zOr,zVP]
theorem zQw (L:List Fg) {P:List Sp} {i:Nat} {x:Sp} (h:P[i]? = some x) (b:Bool):(zSx L P b i&&decide (0 < plA L x.s.f))=zSx L P b (i+1):=by
 unfold zSx;rw [List.take_add_one,h];simp [Bool.and_assoc]
theorem zQx {P:List Sp} {i:Nat} {x:Sp} (h:P[i]? = some x):(P.flatMap zCa)[i*5]? = some (.int .i64 x.s.f):=by
 have:=zFy zCa 5 zNd P i 0 x h (by omega);rw [Nat.add_zero] at this;exact this
set_option maxHeartbeats 12800000 in
set_option maxRecDepth 100000 in
theorem zKK (A:Option Addr) (n c:Nat) (L:List Fg) (re lo:Int) (o:Og) (B:Option Addr) (m d:Nat) (w:World) (hA:Fgs w A n L) (hO:Stps w B m o.path) (hr:zAg 126 o=true) (hm:m≤10000) :
  Calls Tryz.prog 57 #[frV A n c re lo,opV o B m d] w (SetGives w (zTb L o) (zRz L o)):=by
 obtain ⟨eH,bt,hpn,_⟩:=zEm hr;have hfr:=zGP hr;obtain ⟨okind,of,⟨off,ofl,offar,ofpc⟩,opath,oover⟩:=o;simp only at eH bt hpn hfr hO;have HA:=qH hA;have HO:=qH hO;have HB:=qH (Below.refl w.heap.size w);obtain ⟨F1,nL⟩:∃v,plA L of=v:=⟨_,rfl⟩
 obtain ⟨q1,BH⟩:∃v,(true&&decide (0 < F1))=v:=⟨_,rfl⟩
 obtain ⟨F2,nK⟩:∃v,(if 0 < off then plA L off else off)=v:=⟨_,rfl⟩
 obtain ⟨q2,fN⟩:∃v,(q1&&(decide (¬0 < off)||decide (0 < F2)))=v:=⟨_,rfl⟩
 have GR:=qH nL;have th:=qH BH;have tq:=qH nK;have jx:=qH fN;have gD:=qH hpn;have aR:=qH hO.len;have HM:=qH hm
 have te:=qH (show zTb L ⟨okind,of,⟨off,ofl,offar,ofpc⟩,opath,oover⟩=⟨okind,F1,⟨F2,ofl,offar,ofpc⟩,opath.map (zOr L),oover⟩ by
  unfold zTb
  simp only [nL,←nK]
  split<;>rfl)
 have Gv:=qH (show zRz L ⟨okind,of,⟨off,ofl,offar,ofpc⟩,opath,oover⟩=zSx L opath q2 opath.length by
  unfold zRz zSx
  simp only [nL]
  rw [List.take_length,←fN,←BH]
  by_cases h0:0 < off
  ·rw [show plA L off=F2 by rw [←nK,if_pos h0]];simp
  ·simp [h0])
 have jO:=qH (show 0 < off→plA L off=F2∧(q1&&decide (0 < F2))=q2 from fun h0=>⟨by rw [←nK,if_pos h0],by rw [←fN,decide_eq_false (fun e=>e h0:¬¬0 < off),Bool.false_or]⟩);have tk:=qH (show off≤0→off=F2∧q1=q2 from fun h0=>⟨by rw [←nK,if_neg (by omega)],by rw [←fN,decide_eq_true (show ¬0 < off by omega),Bool.true_or,Bool.and_true]⟩);rw [te.out,Gv.out];clear nL BH nK fN hpn hm hA hO te Gv hr;go_enter Tryz.func57,Tryz.ntmps57;have hba:Below w.heap.size w (((w.alloc (.cells #[.slice A n c,.int .i64 re,.int .i64 lo] 24)).alloc (.cells #[.int .i64 okind,.int .i64 of,.int .i64 off,.int .i64 ofl,.bool offar,.int .i64 ofpc,.slice B m d,.bool oover] 32)).alloc (.cells #[.int .i64 0,.int .i64 0,.int .i64 0,.int .i64 0,.bool false,.int .i64 0,.slice none 0 0,.bool false] 32)):=(((Below.refl _ _).alloc (Nat.le_refl _) _).alloc (by simp) _).alloc (by simp;omega) _;have ap:Blk (((w.alloc (.cells #[.slice A n c,.int .i64 re,.int .i64 lo] 24)).alloc (.cells #[.int .i64 okind,.int .i64 of,.int .i64 off,.int .i64 ofl,.bool offar,.int .i64 ofpc,.slice B m d,.bool oover] 32)).alloc (.cells #[.int .i64 0,.int .i64 0,.int .i64 0,.int .i64 0,.bool false,.int .i64 0,.slice none 0 0,.bool false] 32)) w.heap.size 24 #[.slice A n c,.int .i64 re,.int .i64 lo]:=((Blk.new w _ _).alloc _).alloc _;have ab:Blk (((w.alloc (.cells #[.slice A n c,.int .i64 re,.int .i64 lo] 24)).alloc (.cells #[.int .i64 okind,.int .i64 of,.int .i64 off,.int .i64 ofl,.bool offar,.int .i64 ofpc,.slice B m d,.bool oover] 32)).alloc (.cells #[.int .i64 0,.int .i64 0,.int .i64 0,.int .i64 0,.bool false,.int .i64 0,.slice none 0 0,.bool false] 32)) (w.heap.size+1) 32 #[.int .i64 okind,.int .i64 of,.int .i64 off,.int .i64 ofl,.bool offar,.int .i64 ofpc,.slice B m d,.bool oover]:=by
  have h:=(Blk.new (w.alloc (.cells #[.slice A n c,.int .i64 re,.int .i64 lo] 24)) 32 #[.int .i64 okind,.int .i64 of,.int .i64 off,.int .i64 ofl,.bool offar,.int .i64 ofpc,.slice B m d,.bool oover]).alloc (.cells #[.int .i64 0,.int .i64 0,.int .i64 0,.int .i64 0,.bool false,.int .i64 0,.slice none 0 0,.bool false] 32)
  rwa [World.size_alloc] at h
 have aa:Blk (((w.alloc (.cells #[.slice A n c,.int .i64 re,.int .i64 lo] 24)).alloc (.cells #[.int .i64 okind,.int .i64 of,.int .i64 off,.int .i64 ofl,.bool offar,.int .i64 ofpc,.slice B m d,.bool oover] 32)).alloc (.cells #[.int .i64 0,.int .i64 0,.int .i64 0,.int .i64 0,.bool false,.int .i64 0,.slice none 0 0,.bool false] 32)) (w.heap.size+2) 32 #[.int .i64 0,.int .i64 0,.int .i64 0,.int .i64 0,.bool false,.int .i64 0,.slice none 0 0,.bool false]:=by
  have h:=Blk.new ((w.alloc (.cells #[.slice A n c,.int .i64 re,.int .i64 lo] 24)).alloc (.cells #[.int .i64 okind,.int .i64 of,.int .i64 off,.int .i64 ofl,.bool offar,.int .i64 ofpc,.slice B m d,.bool oover] 32)) 32 #[.int .i64 0,.int .i64 0,.int .i64 0,.int .i64 0,.bool false,.int .i64 0,.slice none 0 0,.bool false]
  rwa [World.size_alloc,World.size_alloc] at h
 replace HB:=qH hba;clear hba;go_upto_region 1 with fail
 generalize ((w.alloc (.cells #[.slice A n c,.int .i64 re,.int .i64 lo] 24)).alloc (.cells #[.int .i64 okind,.int .i64 of,.int .i64 off,.int .i64 ofl,.bool offar,.int .i64 ofpc,.slice B m d,.bool oover] 32)).alloc (.cells #[.int .i64 0,.int .i64 0,.int .i64 0,.int .i64 0,.bool false,.int .i64 0,.slice none 0 0,.bool false] 32)=X at HB ap ab aa ⊢;obtain ⟨aQ,nH⟩:∃a,w.heap.size=a:=⟨_,rfl⟩
 obtain ⟨ae,cM⟩:∃a,w.heap.size+1=a:=⟨_,rfl⟩
 obtain ⟨ag,iq⟩:∃a,w.heap.size+2=a:=⟨_,rfl⟩
 have oX:w.heap.size≤aQ:=by omega
 have aF:w.heap.size≤ae:=by omega
 have bW:w.heap.size≤ag:=by omega
 have dF:aQ < ae:=by omega
 have mU:aQ < ag:=by omega
 have bg:ae < ag:=by omega
 rw [iq] at aa ⊢;rw [cM] at ab ⊢;have AX:=qH nH;have ap:Blk X aQ 24 #[.slice A n c,.int .i64 re,.int .i64 lo]:=by rw [←nH];exact ap
 have AX:=qH nH;clear cM iq;go_wp2_with fail
 refine (zGE _).mono ?_;rintro e Xw ⟨A2,c2,rfl,bu,hb⟩;have yB:∀k,blk A2=some k→k≠aQ:=fun k hk=>Nat.ne_of_gt (Nat.lt_of_lt_of_le ap.lt (bu.lt k hk).1)
 have gt:∀k,blk A2=some k→k≠ae:=fun k hk=>Nat.ne_of_gt (Nat.lt_of_lt_of_le ab.lt (bu.lt k hk).1)
 have vY:∀k,blk A2=some k→k≠ag:=fun k hk=>Nat.ne_of_gt (Nat.lt_of_lt_of_le aa.lt (bu.lt k hk).1)
 have sW:=HB.out.size;replace ap:=ap.below hb ap.lt;replace ab:=ab.below hb ab.lt;replace aa:=aa.below hb aa.lt;replace HB:=qH (zAa HB.out hb HB.out.size);replace bu:=bu.mono sW;clear hb sW;have q1:=(Below.refl Xw.heap.size Xw).alloc (Nat.le_refl _) (.cells #[.slice A2 126 c2,.int .i64 0,.int .i64 1] 24);have mW:=ap.lt;have ek:=ab.lt;have kg:=aa.lt;have np:∀k,blk A2=some k→k≠Xw.heap.size:=fun k hk=>Nat.ne_of_lt (bu.lt k hk).2
 have uY:=HB.out.size;replace ap:=ap.below q1 ap.lt;replace ab:=ab.below q1 ab.lt;replace aa:=aa.below q1 aa.lt;replace bu:=bu.below q1;replace HB:=qH (zAa HB.out q1 HB.out.size);have aE:=Blk.new Xw 24 #[.slice A2 126 c2,.int .i64 0,.int .i64 1];clear q1;go_upto_region 3 with fail
 generalize Xw.alloc (.cells #[.slice A2 126 c2,.int .i64 0,.int .i64 1] 24)=Xa at ap ab aa aE bu HB ⊢;generalize hz_all:Xw.heap.size=a_all at aE uY mW ek kg np ⊢;clear hz_all;have jv:Xa.cell? ⟨aQ,0,none⟩=some (.slice A n c):=(ap.cell 0).trans rfl;have ju:Xa.cell? ⟨aQ,1,none⟩=some (.int .i64 re):=(ap.cell 1).trans rfl;have js:Xa.cell? ⟨aQ,2,none⟩=some (.int .i64 lo):=(ap.cell 2).trans rfl;have kM:Xa.cell? ⟨a_all,0,none⟩=some (.slice A2 126 c2):=(aE.cell 0).trans rfl;have kK:Xa.cell? ⟨a_all,1,none⟩=some (.int .i64 0):=(aE.cell 1).trans rfl;have kJ:Xa.cell? ⟨a_all,2,none⟩=some (.int .i64 1):=(aE.cell 2).trans rfl;have az:Xa.cell? ⟨ae,0,none⟩=some (.int .i64 okind):=(ab.cell 0).trans rfl;have bK:Xa.cell? ⟨ae,1,none⟩=some (.int .i64 of):=(ab.cell 1).trans rfl;have aV:Xa.cell? ⟨ae,2,none⟩=some (.int .i64 off):=(ab.cell 2).trans rfl;have bE:Xa.cell? ⟨ae,3,none⟩=some (.int .i64 ofl):=(ab.cell 3).trans rfl;have bD:Xa.cell? ⟨ae,4,none⟩=some (.bool offar):=(ab.cell 4).trans rfl;have bC:Xa.cell? ⟨ae,5,none⟩=some (.int .i64 ofpc):=(ab.cell 5).trans rfl;have bJ:Xa.cell? ⟨ae,6,none⟩=some (.slice B m d):=(ab.cell 6).trans rfl;have aX:Xa.cell? ⟨ae,7,none⟩=some (.bool oover):=(ab.cell 7).trans rfl;go_wp2_with fail
 refine (zFl GR.out th.out _ (HA.out.below HB.out) (zIq bu) eH bt).mono ?_;rintro e Xb ⟨rfl,hb⟩;clear jv ju js kM kK kJ az bK aV bE bD bC bJ aX;replace ap:=ap.below hb ap.lt;replace ab:=ab.below hb ab.lt;replace aa:=aa.below hb aa.lt;replace aE:=aE.below hb aE.lt;replace bu:=bu.below hb;replace HB:=qH (zAa HB.out hb HB.out.size);clear hb;have nR:=ab.frozen 1;have bK:Xb.cell? ⟨ae,1,none⟩=some (.int .i64 of):=(ab.cell 1).trans rfl;go_upto_region 4 with fail
 clear nR bK;replace ap:=ap.far (p:=⟨ae,1,none⟩) (Nat.ne_of_lt dF) (.int .i64 F1);replace ab:=ab.set_ 1 (.int .i64 F1);replace aa:=aa.far (p:=⟨ae,1,none⟩) (Nat.ne_of_gt bg) (.int .i64 F1);replace aE:=aE.far (p:=⟨ae,1,none⟩) (Nat.ne_of_gt ek) (.int .i64 F1);replace bu:=bu.farSet 1 (.int .i64 F1) gt;replace HB:=qH (HB.out.setCell (p:=⟨ae,1,none⟩) aF (.int .i64 F1));replace ab:Blk (Xb.setCell ⟨ae,1,none⟩ (.int .i64 F1)) ae 32 #[.int .i64 okind,.int .i64 F1,.int .i64 off,.int .i64 ofl,.bool offar,.int .i64 ofpc,.slice B m d,.bool oover]:=ab;generalize (Xb.setCell ⟨ae,1,none⟩ (.int .i64 F1))=Xc at ap ab aa aE bu HB ⊢;have gY:=qH (show 0 < off→1≤off∧off≤126 from fun h=>⟨by omega,hfr.2⟩);clear hfr GR th tq jx;have az:Xc.cell? ⟨ae,0,none⟩=some (.int .i64 okind):=(ab.cell 0).trans rfl;have bK:Xc.cell? ⟨ae,1,none⟩=some (.int .i64 F1):=(ab.cell 1).trans rfl;have aV:Xc.cell? ⟨ae,2,none⟩=some (.int .i64 off):=(ab.cell 2).trans rfl;have bE:Xc.cell? ⟨ae,3,none⟩=some (.int .i64 ofl):=(ab.cell 3).trans rfl;have bD:Xc.cell? ⟨ae,4,none⟩=some (.bool offar):=(ab.cell 4).trans rfl;have bC:Xc.cell? ⟨ae,5,none⟩=some (.int .i64 ofpc):=(ab.cell 5).trans rfl;have bJ:Xc.cell? ⟨ae,6,none⟩=some (.slice B m d):=(ab.cell 6).trans rfl;have aX:Xc.cell? ⟨ae,7,none⟩=some (.bool oover):=(ab.cell 7).trans rfl;go_upto_if 24 with fail
 clear az bK aV bE bD bC bJ aX;go_cut [7] (fun v7 wv=>∃V:World,V=wv∧v7=.bool q2∧Blk V aQ 24 #[.slice A n c,.int .i64 re,.int .i64 lo]∧Blk V a_all 24 #[.slice A2 126 c2,.int .i64 0,.int .i64 1]∧Blk V ae 32 #[.int .i64 okind,.int .i64 F1,.int .i64 F2,.int .i64 ofl,.bool offar,.int .i64 ofpc,.slice B m d,.bool oover]∧Blk V ag 32 #[.int .i64 0,.int .i64 0,.int .i64 0,.int .i64 0,.bool false,.int .i64 0,.slice none 0 0,.bool false]∧Row V w.heap.size 3 A2 126 c2 (AL.flatMap fgC)∧Hid (Below w.heap.size w V))
 case first =>
  by_cases h0:0 < off
  ·obtain ⟨hv,hq⟩:=jO.out h0;have HV:=qH hv;have HQQ:=qH hq;obtain ⟨g1,g2⟩:=gY.out h0;clear hv hq jO tk gY;have jv:Xc.cell? ⟨aQ,0,none⟩=some (.slice A n c):=(ap.cell 0).trans rfl;have ju:Xc.cell? ⟨aQ,1,none⟩=some (.int .i64 re):=(ap.cell 1).trans rfl;have js:Xc.cell? ⟨aQ,2,none⟩=some (.int .i64 lo):=(ap.cell 2).trans rfl;have kM:Xc.cell? ⟨a_all,0,none⟩=some (.slice A2 126 c2):=(aE.cell 0).trans rfl;have kK:Xc.cell? ⟨a_all,1,none⟩=some (.int .i64 0):=(aE.cell 1).trans rfl;have kJ:Xc.cell? ⟨a_all,2,none⟩=some (.int .i64 1):=(aE.cell 2).trans rfl;have az:Xc.cell? ⟨ae,0,none⟩=some (.int .i64 okind):=(ab.cell 0).trans rfl;have bK:Xc.cell? ⟨ae,1,none⟩=some (.int .i64 F1):=(ab.cell 1).trans rfl;have aV:Xc.cell? ⟨ae,2,none⟩=some (.int .i64 off):=(ab.cell 2).trans rfl;have bE:Xc.cell? ⟨ae,3,none⟩=some (.int .i64 ofl):=(ab.cell 3).trans rfl;have bD:Xc.cell? ⟨ae,4,none⟩=some (.bool offar):=(ab.cell 4).trans rfl;have bC:Xc.cell? ⟨ae,5,none⟩=some (.int .i64 ofpc):=(ab.cell 5).trans rfl;have bJ:Xc.cell? ⟨ae,6,none⟩=some (.slice B m d):=(ab.cell 6).trans rfl;have aX:Xc.cell? ⟨ae,7,none⟩=some (.bool oover):=(ab.cell 7).trans rfl;go_wp2_with fail
   refine (zFl HV.out HQQ.out _ (HA.out.below HB.out) (zIq bu) g1 g2).mono ?_;rintro e Xd ⟨rfl,hb⟩;clear jv ju js kM kK kJ az bK aV bE bD bC bJ aX;replace ap:=ap.below hb ap.lt;replace ab:=ab.below hb ab.lt;replace aa:=aa.below hb aa.lt;replace aE:=aE.below hb aE.lt;replace bu:=bu.below hb;replace HB:=qH (zAa HB.out hb HB.out.size);clear hb;have eu:=ab.frozen 2;have aV:Xd.cell? ⟨ae,2,none⟩=some (.int .i64 off):=(ab.cell 2).trans rfl;have bI:Blk (Xd.setCell ⟨ae,2,none⟩ (.int .i64 F2)) ae 32 #[.int .i64 okind,.int .i64 F1,.int .i64 F2,.int .i64 ofl,.bool offar,.int .i64 ofpc,.slice B m d,.bool oover]:=ab.set_ 2 _;have mn:=ap.far (p:=⟨ae,2,none⟩) (Nat.ne_of_lt dF) (.int .i64 F2);have ie:=aE.far (p:=⟨ae,2,none⟩) (Nat.ne_of_gt ek) (.int .i64 F2);have eC:=aa.far (p:=⟨ae,2,none⟩) (Nat.ne_of_gt bg) (.int .i64 F2);have lp:=bu.farSet 2 (.int .i64 F2) gt;have gY:=qH (HB.out.setCell (p:=⟨ae,2,none⟩) aF (.int .i64 F2));clear ab ap aE aa bu;go_wp2_with fail
   go_meet
   case rel=>exact ⟨_,rfl,rfl,mn,ie,bI,eC,lp,gY⟩
  ·obtain ⟨rfl,rfl⟩:=tk.out (by omega);clear jO tk gY;go_wp2_with fail
   go_meet
   case rel=>exact ⟨_,rfl,rfl,ap,aE,ab,aa,bu,HB⟩
 case rest =>
  clear ap aE ab aa bu HB jO tk gY;obtain ⟨V,hV,rfl,ap,aE,ab,aa,bu,HB⟩:=hcut;subst hV;have az:V.cell? ⟨ae,0,none⟩=some (.int .i64 okind):=(ab.cell 0).trans rfl;have bK:V.cell? ⟨ae,1,none⟩=some (.int .i64 F1):=(ab.cell 1).trans rfl;have aV:V.cell? ⟨ae,2,none⟩=some (.int .i64 F2):=(ab.cell 2).trans rfl;have bE:V.cell? ⟨ae,3,none⟩=some (.int .i64 ofl):=(ab.cell 3).trans rfl;have bD:V.cell? ⟨ae,4,none⟩=some (.bool offar):=(ab.cell 4).trans rfl;have bC:V.cell? ⟨ae,5,none⟩=some (.int .i64 ofpc):=(ab.cell 5).trans rfl;have bJ:V.cell? ⟨ae,6,none⟩=some (.slice B m d):=(ab.cell 6).trans rfl;have aX:V.cell? ⟨ae,7,none⟩=some (.bool oover):=(ab.cell 7).trans rfl;have hm:=HM.out;go_upto_region 7 with (at_builtin;refine zEV ?_)
  refine qH ?_;refine dupP (B:=B) (m:=m) (d:=d) (P:=opath) rfl (.const (.slice none 0 0)) (.tmp 38) ?_ (HO.out.1.below HB.out) ?_ ?_ (by omega) V.heap.size (Nat.le_refl _) ?_
  ·rfl
  ·rfl
  ·rfl
  intro A3 c3 Y aG hb;clear az bK aV bE bD bC bJ aX;have o7:∀k,blk A3=some k→k≠aQ:=fun k hk=>Nat.ne_of_gt (Nat.lt_of_lt_of_le ap.lt (aG.lt k hk).1)
  have jr:∀k,blk A3=some k→k≠ae:=fun k hk=>Nat.ne_of_gt (Nat.lt_of_lt_of_le ab.lt (aG.lt k hk).1)
  have gT:∀k,blk A3=some k→k≠ag:=fun k hk=>Nat.ne_of_gt (Nat.lt_of_lt_of_le aa.lt (aG.lt k hk).1)
  have nl:∀k,blk A3=some k→k≠a_all:=fun k hk=>Nat.ne_of_gt (Nat.lt_of_lt_of_le aE.lt (aG.lt k hk).1)
  have pb:∀k j,blk A2=some k→blk A3=some j→k≠j:=fun k j hk hj=>Nat.ne_of_lt (Nat.lt_of_lt_of_le (bu.lt k hk).2 (aG.lt j hj).1)
  have sV:=HB.out.size;replace ap:=ap.below hb ap.lt;replace ab:=ab.below hb ab.lt;replace aa:=aa.below hb aa.lt;replace aE:=aE.below hb aE.lt;replace bu:=bu.below hb;replace HB:=qH (zAa HB.out hb HB.out.size);replace aG:=aG.mono sV;clear hb sV;go_upto_region 7 with fail
  go_wp2_with fail
  go_loopw [7,9] (fun v7 v9 wv=>∃(i:Nat) (V:World) (q:Bool),V=wv∧i≤m∧v9=.int .i64 i∧v7=.bool q∧Hid (q=zSx L opath q2 i)∧Blk V aQ 24 #[.slice A n c,.int .i64 re,.int .i64 lo]∧Blk V a_all 24 #[.slice A2 126 c2,.int .i64 0,.int .i64 1]∧Blk V ae 32 #[.int .i64 okind,.int .i64 F1,.int .i64 F2,.int .i64 ofl,.bool offar,.int .i64 ofpc,.slice B m d,.bool oover]∧Blk V ag 32 #[.int .i64 0,.int .i64 0,.int .i64 0,.int .i64 0,.bool false,.int .i64 0,.slice none 0 0,.bool false]∧Row V w.heap.size 3 A2 126 c2 (AL.flatMap fgC)∧Row V w.heap.size 5 A3 m c3 ((zHz L opath i).flatMap zCa)∧Hid (Below w.heap.size w V)) (fun _ v9 _=>m-(intOf v9).toNat)
  case atStart=>exact ⟨0,_,q2,rfl,by omega,rfl,rfl,qH (by simp [zSx]),ap,aE,ab,aa,bu,by rw [zOb];exact aG,HB⟩
  case round =>
   clear ap aE ab aa bu aG HB;obtain ⟨i,X,q,hX,hi,rfl,rfl,AG,ap,aE,ab,aa,bu,aG,HB⟩:=hrel;subst hX;by_cases hlt:i < m
   ·have j0:(0:Int)≤(i:Int):=by omega
    have j1:(i:Int) < (m:Int):=by omega
    obtain ⟨x,hx⟩:∃x,opath[i]? = some x:=⟨_,List.getElem?_eq_getElem (by rw [aR.out];exact hlt)⟩
    obtain ⟨ga,oa,rfl,BS,BQ⟩:=aG.form (by omega);obtain ⟨s1,s2⟩:=zSy L hx;have e0:X.cell? ⟨ga,oa+i*5,none⟩=some (.int .i64 x.s.f):=aG.cell (zQx s1);have hcap:=aG.cap;have ez:X.frozen? ⟨ga,oa+i*5,none⟩=false:=aG.free (by omega);obtain ⟨y,hy⟩:∃y,plA L x.s.f=y:=⟨_,rfl⟩
    obtain ⟨q',BI⟩:∃q',(q&&decide (0 < y))=q':=⟨_,rfl⟩
    have HY:=qH hy;have GA:=qH BI;have hnm:=zAj.1 (gD.out x (List.mem_of_getElem? hx));have nG:1≤x.s.f:=hnm.1;have ul:x.s.f≤126:=hnm.2.1;have HQN:=qH (show q'=zSx L opath q2 (i+1) by rw [←zQw L hx q2,←AG.out,hy,BI]);rw [hy] at s2;have fM:=qH s2;have qt:=qH aG;have GP:=qH (show ga < X.heap.size from BQ);have xz:aQ≠ga:=fun e=>o7 ga rfl e.symm
    have xy:ae≠ga:=fun e=>jr ga rfl e.symm
    have tR:ag≠ga:=fun e=>gT ga rfl e.symm
    have tS:a_all≠ga:=fun e=>nl ga rfl e.symm
    have xA:∀k,blk A2=some k→k≠ga:=fun k hk=>pb k ga hk rfl
    generalize x.s.f=xf at e0 HY nG ul;have gL:=qH (HA.out.below HB.out);have jB:=qH (zIq bu);have K1:=qH ap;have K2:=qH aE;have E0:=qH e0;have EZ:=qH ez;have KP:=qH (show ∀wx,Below X.heap.size X wx→(Below X.heap.size X wx∧wx.cell? ⟨aQ,0,none⟩=some (.slice A n c)∧wx.cell? ⟨aQ,1,none⟩=some (.int .i64 re)∧wx.cell? ⟨aQ,2,none⟩=some (.int .i64 lo)∧wx.cell? ⟨a_all,0,none⟩=some (.slice A2 126 c2)∧wx.cell? ⟨a_all,1,none⟩=some (.int .i64 0)∧wx.cell? ⟨a_all,2,none⟩=some (.int .i64 1)∧wx.cell? ⟨ga,oa+i*5,none⟩=some (.int .i64 xf)) from fun wx h=>⟨h,(h.cell (p:=⟨aQ,0,none⟩) K1.out.lt).trans ((K1.out.cell 0).trans rfl),(h.cell (p:=⟨aQ,1,none⟩) K1.out.lt).trans ((K1.out.cell 1).trans rfl),(h.cell (p:=⟨aQ,2,none⟩) K1.out.lt).trans ((K1.out.cell 2).trans rfl),(h.cell (p:=⟨a_all,0,none⟩) K2.out.lt).trans ((K2.out.cell 0).trans rfl),(h.cell (p:=⟨a_all,1,none⟩) K2.out.lt).trans ((K2.out.cell 1).trans rfl),(h.cell (p:=⟨a_all,2,none⟩) K2.out.lt).trans ((K2.out.cell 2).trans rfl),(h.cell (p:=⟨ga,oa+i*5,none⟩) GP.out).trans E0.out⟩);have CF:i*5 < c3*5:=by omega
    have uW:X.cell? ⟨aQ,0,none⟩=some (.slice A n c):=(K1.out.cell 0).trans rfl;have uV:X.cell? ⟨aQ,1,none⟩=some (.int .i64 re):=(K1.out.cell 1).trans rfl;have yw:X.cell? ⟨aQ,2,none⟩=some (.int .i64 lo):=(K1.out.cell 2).trans rfl;have yv:X.cell? ⟨a_all,0,none⟩=some (.slice A2 126 c2):=(K2.out.cell 0).trans rfl;have CO:X.cell? ⟨a_all,1,none⟩=some (.int .i64 0):=(K2.out.cell 1).trans rfl;have CN:X.cell? ⟨a_all,2,none⟩=some (.int .i64 1):=(K2.out.cell 2).trans rfl;clear hx s1 s2 hy BI hnm ez AG;go_upto_region 10 with fail
    have j2:i < m:=hlt;go_region_with (go_at_call 103;(first | refine (zFl HY.out GA.out _ gL.out jB.out nG ul).mono ?_ | refine (zFl HY.out GA.out _ (gL.out.below (Below.refl X.heap.size X).drew) (jB.out.below (Below.refl X.heap.size X).drew) nG ul).mono ?_);rintro e wd ⟨rfl,hbd⟩;have hbq:Below X.heap.size X wd:=zAa ((Below.refl X.heap.size X).drew) hbd (Nat.le_refl _);have hst:wd.cell? ⟨ga,oa+i*5,none⟩=some (.int .i64 xf):=(hbq.cell (p:=⟨ga,oa+i*5,none⟩) GP.out).trans E0.out;have hfz:wd.frozen? ⟨ga,oa+i*5,none⟩=false:=(qt.out.below hbq).free (by omega))
    all_goals
     clear uW uV yw yv CO CN KP;have mn:=(ap.below hbq ap.lt).far (p:=⟨ga,oa+i*5,none⟩) xz (.int .i64 y);have ie:=(aE.below hbq aE.lt).far (p:=⟨ga,oa+i*5,none⟩) tS (.int .i64 y);have bI:=(ab.below hbq ab.lt).far (p:=⟨ga,oa+i*5,none⟩) xy (.int .i64 y);have eC:=(aa.below hbq aa.lt).far (p:=⟨ga,oa+i*5,none⟩) tR (.int .i64 y);have lp:=(bu.below hbq).farSet (oa+i*5) (.int .i64 y) xA;have nV:=(qt.out.below hbq).put (q:=i*5) (by omega) (.int .i64 y);have gY:=qH ((zAa HB.out hbq HB.out.size).setCell (p:=⟨ga,oa+i*5,none⟩) BS (.int .i64 y));rw [fM.out] at nV;have pl:=qH (And.intro mn (And.intro ie (And.intro bI (And.intro eC (And.intro lp (And.intro nV gY))))));clear mn ie bI eC lp nV gY ap aE ab aa bu aG hst hfz hbd;go_wp2_with fail
     go_roundw
     case rel=>exact ⟨i+1,_,q',rfl,by omega,by go_num,rfl,HQN,pl.out⟩
     case measure=>simp [intOf];omega
   ·have j1:¬(i:Int) < (m:Int):=by omega
    have hS:zHz L opath i=opath.map (zOr L):=by rw [show i=opath.length by rw [aR.out];omega];exact zQv L opath
    have hQ:q=zSx L opath q2 opath.length:=by rw [AG.out,show i=opath.length by rw [aR.out];omega]
    rw [hS] at aG;have HQF:=qH hQ;clear hS hQ AG hlt;have qt:=qH (show (opath.map (zOr L)).length=m by rw [List.length_map,aR.out]);have nQ:=ab.frozen 6;have bJ:X.cell? ⟨ae,6,none⟩=some (.slice B m d):=(ab.cell 6).trans rfl;go_upto_region 12 with fail
    clear nQ bJ;replace ap:=ap.far (p:=⟨ae,6,none⟩) (Nat.ne_of_lt dF) (.slice A3 m c3);replace ab:=ab.set_ 6 (.slice A3 m c3);replace aa:=aa.far (p:=⟨ae,6,none⟩) (Nat.ne_of_gt bg) (.slice A3 m c3);replace aE:=aE.far (p:=⟨ae,6,none⟩) (Nat.ne_of_gt ek) (.slice A3 m c3);replace bu:=bu.farSet 6 (.slice A3 m c3) gt;replace aG:=aG.farSet 6 (.slice A3 m c3) jr;replace HB:=qH (HB.out.setCell (p:=⟨ae,6,none⟩) aF (.slice A3 m c3));replace ab:Blk (X.setCell ⟨ae,6,none⟩ (.slice A3 m c3)) ae 32 #[.int .i64 okind,.int .i64 F1,.int .i64 F2,.int .i64 ofl,.bool offar,.int .i64 ofpc,.slice A3 m c3,.bool oover]:=ab;generalize (X.setCell ⟨ae,6,none⟩ (.slice A3 m c3))=Z at ap ab aa aE bu aG HB ⊢;have az:Z.cell? ⟨ae,0,none⟩=some (.int .i64 okind):=(ab.cell 0).trans rfl;have bK:Z.cell? ⟨ae,1,none⟩=some (.int .i64 F1):=(ab.cell 1).trans rfl;have aV:Z.cell? ⟨ae,2,none⟩=some (.int .i64 F2):=(ab.cell 2).trans rfl;have bE:Z.cell? ⟨ae,3,none⟩=some (.int .i64 ofl):=(ab.cell 3).trans rfl;have bD:Z.cell? ⟨ae,4,none⟩=some (.bool offar):=(ab.cell 4).trans rfl;have bC:Z.cell? ⟨ae,5,none⟩=some (.int .i64 ofpc):=(ab.cell 5).trans rfl;have bJ:Z.cell? ⟨ae,6,none⟩=some (.slice A3 m c3):=(ab.cell 6).trans rfl;have aX:Z.cell? ⟨ae,7,none⟩=some (.bool oover):=(ab.cell 7).trans rfl;have dt:Z.cell? ⟨ag,0,none⟩=some (.int .i64 0):=(aa.cell 0).trans rfl;have dr:Z.cell? ⟨ag,1,none⟩=some (.int .i64 0):=(aa.cell 1).trans rfl;have dq:Z.cell? ⟨ag,2,none⟩=some (.int .i64 0):=(aa.cell 2).trans rfl;have dn:Z.cell? ⟨ag,3,none⟩=some (.int .i64 0):=(aa.cell 3).trans rfl;have dm:Z.cell? ⟨ag,4,none⟩=some (.bool false):=(aa.cell 4).trans rfl;have dk:Z.cell? ⟨ag,5,none⟩=some (.int .i64 0):=(aa.cell 5).trans rfl;have dj:Z.cell? ⟨ag,6,none⟩=some (.slice none 0 0):=(aa.cell 6).trans rfl;have di:Z.cell? ⟨ag,7,none⟩=some (.bool false):=(aa.cell 7).trans rfl;have c8:=aa.frozen 0;have cZ:=aa.frozen 1;have cY:=aa.frozen 2;have cX:=aa.frozen 3;have cW:=aa.frozen 4;have cV:=aa.frozen 5;have cU:=aa.frozen 6;have cT:=aa.frozen 7;have SV:=qH (aa.store8 (.int .i64 okind) (.int .i64 F1) (.int .i64 F2) (.int .i64 ofl) (.bool offar) (.int .i64 ofpc) (.slice A3 m c3) (.bool oover));have BV:=qH (zAd HB.out bW (.int .i64 okind) (.int .i64 F1) (.int .i64 F2) (.int .i64 ofl) (.bool offar) (.int .i64 ofpc) (.slice A3 m c3) (.bool oover));have RV:=qH (aG.store8of gT (.int .i64 okind) (.int .i64 F1) (.int .i64 F2) (.int .i64 ofl) (.bool offar) (.int .i64 ofpc) (.slice A3 m c3) (.bool oover));have mQ:=qH (SetGives.of (o:=⟨okind,F1,⟨F2,ofl,offar,ofpc⟩,opath.map (zOr L),oover⟩) HQF.out RV.out qt.out.symm BV.out);clear ap aE ab aa bu aG RV BV;go_wp2_with fail
    exact zAD rfl rfl rfl SV.out Tryz.underlying32 rfl (by kernel_rfl) rfl mQ.out
end Go.Proofs.YtlmdfmnbcndhoaaGreatDoor
