/-
  Lemmas, part 40. Conditions: each theorem's own.
-/
import Derived.Test.YtlmdfmnbcndhoaaGreatDoorRi39
namespace Go.Proofs.YtlmdfmnbcndhoaaGreatDoor
open Go.RowKit
theorem Els.src {α:Type} {sz:Nat} {enc:α→List Value} {w:World} {A:Option Addr} {n:Nat} {L:List α} (h:Els sz enc w A n L) (hz:∀x,(enc x).length=sz) (h0:0 < sz):Src w sz A n (L.flatMap enc):=by
 have hl:(L.flatMap enc).length=n*sz:=by rw [zBY enc sz hz,h.len]
 refine ⟨hl,fun hn=>?_⟩;obtain ⟨g,o,rfl,hg,hc⟩:=h.2.2 hn;refine ⟨_,rfl,hg,fun j u hu=>?_⟩;have hjl:j < n*sz:=by rw [←hl];exact (List.getElem?_eq_some_iff.1 hu).1
 have hd:j / sz < L.length:=by rw [h.len];exact Nat.div_lt_of_lt_mul (by rw [Nat.mul_comm];exact hjl)
 have hx:L[j / sz]? = some L[j / sz]:=List.getElem?_eq_getElem hd;have hf:=zFp enc sz hz L (j / sz) (j % sz) _ hx (Nat.mod_lt _ h0);have e:j / sz*sz+j % sz=j:=by rw [Nat.mul_comm];exact Nat.div_add_mod j sz
 rw [e,hu] at hf;have:=hc (j / sz) _ hx (j % sz) u hf.symm;rw [Addr.add_lit]
 rwa [Nat.add_assoc,e] at this
set_option maxHeartbeats 1600000 in
set_option maxRecDepth 100000 in
theorem zNy (A:Option Addr) (n c:Nat) (L:List Fg) (re lo:Int) (B:Option Addr) (d:Nat) (f:Int) (b:Bool) (w:World) (hA:Fgs w A n L) (hB:Fgs w B 126 AL) (h1:1≤f) (h2:f≤126) :
  Calls Tryz.prog 103 #[frV A n c re lo,frV B 126 d 0 1,.int .i64 f,.bool b] w fun e w'=>e=.returned (.tuple #[.int .i64 (plA L f),.bool (b&&decide (0 < plA L f))])∧Below w.heap.size w w':=by
 have hb0:Below w.heap.size w ((w.alloc (.cells #[.slice A n c,.int .i64 re,.int .i64 lo] 24)).alloc (.cells #[.slice B 126 d,.int .i64 0,.int .i64 1] 24)):=((Below.refl _ _).alloc (Nat.le_refl _) _).alloc (by simp) _;have hk0:Blk ((w.alloc (.cells #[.slice A n c,.int .i64 re,.int .i64 lo] 24)).alloc (.cells #[.slice B 126 d,.int .i64 0,.int .i64 1] 24)) w.heap.size 24 #[.slice A n c,.int .i64 re,.int .i64 lo]:=(Blk.new w _ _).alloc _;have hk1:Blk ((w.alloc (.cells #[.slice A n c,.int .i64 re,.int .i64 lo] 24)).alloc (.cells #[.slice B 126 d,.int .i64 0,.int .i64 1] 24)) (w.heap.size+1) 24 #[.slice B 126 d,.int .i64 0,.int .i64 1]:=heap_alloc2_new w _ _;have hA1:=hA.below hb0;have hB1:=hB.below hb0;obtain ⟨i,hi⟩:∃i:Nat,f=(i:Int)+1:=⟨(f-1).toNat,by omega⟩
 have hin:i < 126:=by omega
 obtain ⟨g,o,rfl,hg,⟨x0,x1,x2⟩,_⟩:=hB1.at_ hin;obtain ⟨k,hk⟩:∃k,zAG L (fa AL i)=k:=⟨_,rfl⟩
 have hpl:plA L f=(k:Int):=by unfold plA;rw [hi,show ((i:Int)+1-1).toNat=i by omega,hk]
 rw [hpl];have q0:IntKind.i64.wrap (i:Int)=(i:Int):=IntWalk.i64_in _ (by omega);have q2:f-1=(i:Int):=by omega
 have j0:(0:Int)≤(i:Int):=by omega
 have j1:(i:Int) < 126:=by omega
 generalize fa AL i=x at x0 x1 x2 hk;have HIX:=qH hk;go_enter Tryz.func103,Tryz.ntmps103;go_wp2_with fail
 generalize ((w.alloc (.cells #[.slice A n c,.int .i64 re,.int .i64 lo] 24)).alloc (.cells #[.slice (some ⟨g,o,none⟩) 126 d,.int .i64 0,.int .i64 1] 24))=X at hb0 hk0 hk1 hA1 hB1 hg x0 x1 x2 ⊢;have c0:X.cell? ⟨w.heap.size,0,none⟩=some (.slice A n c):=(hk0.cell 0).trans rfl;have c1:X.cell? ⟨w.heap.size,1,none⟩=some (.int .i64 re):=(hk0.cell 1).trans rfl;have c2:X.cell? ⟨w.heap.size,2,none⟩=some (.int .i64 lo):=(hk0.cell 2).trans rfl;have d0:X.cell? ⟨w.heap.size+1,0,none⟩=some (.slice (some ⟨g,o,none⟩) 126 d):=(hk1.cell 0).trans rfl;have HA1:=qH hA1;have HB0:=qH hb0;have HLT:=qH (show w.heap.size < X.heap.size∧w.heap.size+1 < X.heap.size∧g < X.heap.size from ⟨hk0.lt,hk1.lt,hg⟩);clear hA hB hA1 hB1 hb0 hk0 hk1 hg hi hk hpl h1 h2;have KP:=qH (show ∀wx,Below X.heap.size X wx→(Below X.heap.size X wx∧wx.cell? ⟨w.heap.size,0,none⟩=some (.slice A n c)∧wx.cell? ⟨w.heap.size,1,none⟩=some (.int .i64 re)∧wx.cell? ⟨w.heap.size,2,none⟩=some (.int .i64 lo)∧wx.cell? ⟨w.heap.size+1,0,none⟩=some (.slice (some ⟨g,o,none⟩) 126 d)∧wx.cell? ⟨g,o+i*3,none⟩=some (.int .i64 x.p)∧wx.cell? ⟨g,o+i*3+1,none⟩=some (.bool x.r)∧wx.cell? ⟨g,o+i*3+2,none⟩=some (.int .i64 x.d)) from fun wx h=>⟨h,(h.cell (p:=⟨w.heap.size,0,none⟩) HLT.out.1).trans c0,(h.cell (p:=⟨w.heap.size,1,none⟩) HLT.out.1).trans c1,(h.cell (p:=⟨w.heap.size,2,none⟩) HLT.out.1).trans c2,(h.cell (p:=⟨w.heap.size+1,0,none⟩) HLT.out.2.1).trans d0,(h.cell (p:=⟨g,o+i*3,none⟩) HLT.out.2.2).trans x0,(h.cell (p:=⟨g,o+i*3+1,none⟩) HLT.out.2.2).trans x1,(h.cell (p:=⟨g,o+i*3+2,none⟩) HLT.out.2.2).trans x2⟩);go_upto_region 1 with fail
 go_cut [10] (fun v10 wv=>v10=.int .i64 (k:Int)∧∃V:World,V=wv∧Below X.heap.size X V)
 case first =>
  go_region_held3 (fun wx=>Below X.heap.size X wx∧wx.cell? ⟨w.heap.size,0,none⟩=some (.slice A n c)∧wx.cell? ⟨w.heap.size,1,none⟩=some (.int .i64 re)∧wx.cell? ⟨w.heap.size,2,none⟩=some (.int .i64 lo)∧wx.cell? ⟨w.heap.size+1,0,none⟩=some (.slice (some ⟨g,o,none⟩) 126 d)∧wx.cell? ⟨g,o+i*3,none⟩=some (.int .i64 x.p)∧wx.cell? ⟨g,o+i*3+1,none⟩=some (.bool x.r)∧wx.cell? ⟨g,o+i*3+2,none⟩=some (.int .i64 x.d)) (first | with_reducible assumption | with_reducible exact KP.out _ (Below.refl _ _) | with_reducible exact KP.out _ (Below.refl _ _).drew | with_reducible exact KP.out _ (And.left (by assumption)) | with_reducible exact KP.out _ (Below.drew (And.left (by assumption))))
   (first | (go_at_call 53;refine (zKq HIX.out c re lo _ (HA1.out.below (And.left (by assumption)))).mono ?_;rintro e wd ⟨rfl,hbd⟩;have hbq:Below X.heap.size X wd:=zAa (And.left (by assumption)) hbd (Below.size (And.left (by assumption)));have hkk:=KP.out wd hbq))
  all_goals
   have hbf:=And.left (show Below X.heap.size X _∧_ by assumption);go_wp2_with fail
   go_meet
   case rel=>exact ⟨rfl,_,rfl,hbf⟩
 case rest =>
  obtain ⟨rfl,V,hV,hbv⟩:=hcut;subst hV;have HBV:=qH (zAa HB0.out hbv HB0.out.size);clear hbv
  cases b with
  | false =>
   go_wp2_with fail
   go_ret2;exact ⟨rfl,HBV.out⟩
  | true =>
   by_cases h0:(0:Int) < (k:Int)
   ·go_wp2_with fail
    go_ret2;exact ⟨by simp,HBV.out⟩
   ·go_wp2_with fail
    go_ret2;exact ⟨by simp,HBV.out⟩
theorem zFh {L:List Fg} {f v:Int} {b q:Bool} (hv:plA L f=v) (hq:(b&&decide (0 < v))=q) {A:Option Addr} {n c:Nat} {re lo:Int} {B:Option Addr} {d:Nat} (w:World) (hA:Fgs w A n L) (hB:Fgs w B 126 AL) (h1:1≤f) (h2:f≤126) :
  Calls Tryz.prog 103 #[frV A n c re lo,frV B 126 d 0 1,.int .i64 f,.bool b] w fun e w'=>e=.returned (.tuple #[.int .i64 v,.bool q])∧Below w.heap.size w w':=by
 subst hv;subst hq;exact zNy A n c L re lo B d f b w hA hB h1 h2
theorem dupP {w:World} {ops:Array Oper} {rest:List Oper} {o:Oper} {a:Act} {Q:Exit→Act→World→Prop} (hgd:o.guard=none) (s x:Operand)
  (ho:o.op=.call { callee:=.builtin .append,args:=#[s,x],argTypes:=#[30,30] })
  {B:Option Addr} {m d:Nat} {P:List Sp} (hP:Els 5 zCj w B m P) (hs:a.eval s=.slice none 0 0) (hx:a.eval x=.slice B m d) (hm:m≤1000000) (base:Nat) (hbase:base≤w.heap.size)
  (h:∀A' c' w',Row w' base 5 A' m c' (P.flatMap zCj)→Below w.heap.size w w'→wpList Tryz.prog ops Q rest (a.put o.dst (.slice A' m c')) w') :
  wpList Tryz.prog ops Q (o :: rest) a w:=by
 obtain ⟨i0,hi,hz0,hz1,hz2⟩:=info_parts zJT
 refine zQk hgd s x 30 ho 86 i0 _ 5 40 Tryz.underlying30 hi hz0 hz1 hz2 rfl (by decide) (Row.none_ w base 5) (hP.src (fun _=>rfl) (by omega))
  (by intro u hu;obtain ⟨y,_,hy⟩:=List.mem_flatMap.1 hu;simp [zCj] at hy;rcases hy with rfl | rfl | rfl | rfl | rfl<;>rfl) hs hx m (by omega) (by unfold maxLen;omega) (by omega) hbase ?_
 intro A' c' w' h1 h2 _ _;refine h A' c' w' (by simpa using h1) ?_;exact (Below.refl _ _).grown ⟨h2.os,h2.tape,h2.output,h2.size,h2.block⟩ (Nat.le_refl _) (fun k hk=>by cases hk)
theorem Row.store8of {w:World} {base g sz:Nat} {A:Option Addr} {n c:Nat} {xs:List Value} (h:Row w base sz A n c xs) (hf:∀k,blk A=some k→k≠g) (u0 u1 u2 u3 u4 u5 u6 u7:Value) :
  Row ((((((((w.setCell ⟨g,0,none⟩ u0).setCell ⟨g,1,none⟩ u1).setCell ⟨g,2,none⟩ u2).setCell ⟨g,3,none⟩ u3).setCell ⟨g,4,none⟩ u4).setCell ⟨g,5,none⟩ u5).setCell ⟨g,6,none⟩ u6).setCell ⟨g,7,none⟩ u7) base sz A n c xs :=
 (((((((h.farSet 0 u0 hf).farSet 1 u1 hf).farSet 2 u2 hf).farSet 3 u3 hf).farSet 4 u4 hf).farSet 5 u5 hf).farSet 6 u6 hf).farSet 7 u7 hf
def SetGives (w0:World) (o:Og) (b:Bool) (e:Ending) (w':World):Prop :=
 ∃B m d,e=.returned (.tuple #[opV o B m d,.bool b])∧Row w' w0.heap.size 5 B m d (o.path.flatMap zCj)∧m=o.path.length∧Below w0.heap.size w0 w'
theorem SetGives.of {w0 w':World} {o:Og} {q b:Bool} {B:Option Addr} {m d:Nat} (hq:q=b) (hrow:Row w' w0.heap.size 5 B m d (o.path.flatMap zCj)) (hm:m=o.path.length) (hb:Below w0.heap.size w0 w') :
  SetGives w0 o b (.returned (.tuple #[opV o B m d,.bool q])) w':=by
 subst hq;exact ⟨B,m,d,rfl,hrow,hm,hb⟩
def zHm (L:List Fg) (P:List Sp) (i:Nat):List Sp:=(P.take i).map (zNK L)++P.drop i
def zRS (L:List Fg) (P:List Sp) (b:Bool) (i:Nat):Bool:=b&&(P.take i).all fun x=>decide (0 < plA L x.s.f)
theorem zNz (L:List Fg) (P:List Sp):zHm L P 0=P:=by simp [zHm]
theorem zPP (L:List Fg) (P:List Sp):zHm L P P.length=P.map (zNK L):=by simp [zHm]
theorem zMy (x:Sp):(zCj x).length=5:=rfl
theorem zRT (L:List Fg) {P:List Sp} {i:Nat} {x:Sp} (h:P[i]? = some x):(zHm L P i)[i]? = some x∧((zHm L P i).flatMap zCj).set (i*5) (.int .i64 (plA L x.s.f))=(zHm L P (i+1)).flatMap zCj:=by
 have hi:=(List.getElem?_eq_some_iff.1 h).1;have hd:P.drop i=x :: P.drop (i+1):=by
  rw [List.drop_eq_getElem_cons hi]
  congr 1
  rw [List.getElem?_eq_getElem hi] at h;injection h
 have hl:((P.take i).map (zNK L)).length=i:=by rw [List.length_map,List.length_take];omega
 constructor
 ·unfold zHm;rw [List.getElem?_append_right (by omega),hl,Nat.sub_self,hd];rfl
 ·unfold zHm;rw [hd,List.take_add_one,h,List.map_append,List.flatMap_append,List.flatMap_append,List.flatMap_append];have h5:(((P.take i).map (zNK L)).flatMap zCj).length=i*5:=by rw [zBY zCj 5 zMy,hl]
  rw [List.set_append_right _ _ (by omega),h5,Nat.sub_self];simp [zCj,zNK,zVh]
theorem zPQ (L:List Fg) {P:List Sp} {i:Nat} {x:Sp} (h:P[i]? = some x) (b:Bool):(zRS L P b i&&decide (0 < plA L x.s.f))=zRS L P b (i+1):=by
 unfold zRS;rw [List.take_add_one,h];simp [Bool.and_assoc]
theorem zPR {P:List Sp} {i:Nat} {x:Sp} (h:P[i]? = some x):(P.flatMap zCj)[i*5]? = some (.int .i64 x.s.f):=by
 have:=zFp zCj 5 zMy P i 0 x h (by omega);rw [Nat.add_zero] at this;exact this
set_option maxHeartbeats 12800000 in
set_option maxRecDepth 100000 in
theorem zKr (A:Option Addr) (n c:Nat) (L:List Fg) (re lo:Int) (o:Og) (B:Option Addr) (m d:Nat) (w:World) (hA:Fgs w A n L) (hO:Stps w B m o.path) (hr:zAh 126 o=true) (hm:m≤10000) :
  Calls Tryz.prog 57 #[frV A n c re lo,opV o B m d] w (SetGives w (zSo L o) (zSp L o)):=by
 obtain ⟨hf1,hf2,hpn,_⟩:=zDa hr;have hfr:=zCV hr;obtain ⟨okind,of,⟨off,ofl,offar,ofpc⟩,opath,oover⟩:=o;simp only at hf1 hf2 hpn hfr hO;have HA:=qH hA;have HO:=qH hO;have HB:=qH (Below.refl w.heap.size w);obtain ⟨F1,hF1⟩:∃v,plA L of=v:=⟨_,rfl⟩
 obtain ⟨q1,hq1⟩:∃v,(true&&decide (0 < F1))=v:=⟨_,rfl⟩
 obtain ⟨F2,hF2⟩:∃v,(if 0 < off then plA L off else off)=v:=⟨_,rfl⟩
 obtain ⟨q2,hq2⟩:∃v,(q1&&(decide (¬0 < off)||decide (0 < F2)))=v:=⟨_,rfl⟩
 have HF1:=qH hF1;have HQ1:=qH hq1;have HF2:=qH hF2;have HQ2:=qH hq2;have HPN:=qH hpn;have HLN:=qH hO.len;have HM:=qH hm
 have HSO:=qH (show zSo L ⟨okind,of,⟨off,ofl,offar,ofpc⟩,opath,oover⟩=⟨okind,F1,⟨F2,ofl,offar,ofpc⟩,opath.map (zNK L),oover⟩ by
  unfold zSo
  simp only [hF1,←hF2]
  split<;>rfl)
 have HSB:=qH (show zSp L ⟨okind,of,⟨off,ofl,offar,ofpc⟩,opath,oover⟩=zRS L opath q2 opath.length by
  unfold zSp zRS
  simp only [hF1]
  rw [List.take_length,←hq2,←hq1]
  by_cases h0:0 < off
  ·rw [show plA L off=F2 by rw [←hF2,if_pos h0]];simp
  ·simp [h0])
 have HPO:=qH (show 0 < off→plA L off=F2∧(q1&&decide (0 < F2))=q2 from fun h0=>⟨by rw [←hF2,if_pos h0],by rw [←hq2,decide_eq_false (fun e=>e h0:¬¬0 < off),Bool.false_or]⟩);have HNE:=qH (show off≤0→off=F2∧q1=q2 from fun h0=>⟨by rw [←hF2,if_neg (by omega)],by rw [←hq2,decide_eq_true (show ¬0 < off by omega),Bool.true_or,Bool.and_true]⟩);rw [HSO.out,HSB.out];clear hF1 hq1 hF2 hq2 hpn hm hA hO HSO HSB hr;go_enter Tryz.func57,Tryz.ntmps57;have hba:Below w.heap.size w (((w.alloc (.cells #[.slice A n c,.int .i64 re,.int .i64 lo] 24)).alloc (.cells #[.int .i64 okind,.int .i64 of,.int .i64 off,.int .i64 ofl,.bool offar,.int .i64 ofpc,.slice B m d,.bool oover] 32)).alloc (.cells #[.int .i64 0,.int .i64 0,.int .i64 0,.int .i64 0,.bool false,.int .i64 0,.slice none 0 0,.bool false] 32)):=(((Below.refl _ _).alloc (Nat.le_refl _) _).alloc (by simp) _).alloc (by simp;omega) _;have k_fr:Blk (((w.alloc (.cells #[.slice A n c,.int .i64 re,.int .i64 lo] 24)).alloc (.cells #[.int .i64 okind,.int .i64 of,.int .i64 off,.int .i64 ofl,.bool offar,.int .i64 ofpc,.slice B m d,.bool oover] 32)).alloc (.cells #[.int .i64 0,.int .i64 0,.int .i64 0,.int .i64 0,.bool false,.int .i64 0,.slice none 0 0,.bool false] 32)) w.heap.size 24 #[.slice A n c,.int .i64 re,.int .i64 lo]:=((Blk.new w _ _).alloc _).alloc _;have k_op:Blk (((w.alloc (.cells #[.slice A n c,.int .i64 re,.int .i64 lo] 24)).alloc (.cells #[.int .i64 okind,.int .i64 of,.int .i64 off,.int .i64 ofl,.bool offar,.int .i64 ofpc,.slice B m d,.bool oover] 32)).alloc (.cells #[.int .i64 0,.int .i64 0,.int .i64 0,.int .i64 0,.bool false,.int .i64 0,.slice none 0 0,.bool false] 32)) (w.heap.size+1) 32 #[.int .i64 okind,.int .i64 of,.int .i64 off,.int .i64 ofl,.bool offar,.int .i64 ofpc,.slice B m d,.bool oover]:=by
  have h:=(Blk.new (w.alloc (.cells #[.slice A n c,.int .i64 re,.int .i64 lo] 24)) 32 #[.int .i64 okind,.int .i64 of,.int .i64 off,.int .i64 ofl,.bool offar,.int .i64 ofpc,.slice B m d,.bool oover]).alloc (.cells #[.int .i64 0,.int .i64 0,.int .i64 0,.int .i64 0,.bool false,.int .i64 0,.slice none 0 0,.bool false] 32)
  rwa [World.size_alloc] at h
 have k_res:Blk (((w.alloc (.cells #[.slice A n c,.int .i64 re,.int .i64 lo] 24)).alloc (.cells #[.int .i64 okind,.int .i64 of,.int .i64 off,.int .i64 ofl,.bool offar,.int .i64 ofpc,.slice B m d,.bool oover] 32)).alloc (.cells #[.int .i64 0,.int .i64 0,.int .i64 0,.int .i64 0,.bool false,.int .i64 0,.slice none 0 0,.bool false] 32)) (w.heap.size+2) 32 #[.int .i64 0,.int .i64 0,.int .i64 0,.int .i64 0,.bool false,.int .i64 0,.slice none 0 0,.bool false]:=by
  have h:=Blk.new ((w.alloc (.cells #[.slice A n c,.int .i64 re,.int .i64 lo] 24)).alloc (.cells #[.int .i64 okind,.int .i64 of,.int .i64 off,.int .i64 ofl,.bool offar,.int .i64 ofpc,.slice B m d,.bool oover] 32)) 32 #[.int .i64 0,.int .i64 0,.int .i64 0,.int .i64 0,.bool false,.int .i64 0,.slice none 0 0,.bool false]
  rwa [World.size_alloc,World.size_alloc] at h
 replace HB:=qH hba;clear hba;go_upto_region 1 with fail
 generalize ((w.alloc (.cells #[.slice A n c,.int .i64 re,.int .i64 lo] 24)).alloc (.cells #[.int .i64 okind,.int .i64 of,.int .i64 off,.int .i64 ofl,.bool offar,.int .i64 ofpc,.slice B m d,.bool oover] 32)).alloc (.cells #[.int .i64 0,.int .i64 0,.int .i64 0,.int .i64 0,.bool false,.int .i64 0,.slice none 0 0,.bool false] 32)=X at HB k_fr k_op k_res ⊢;obtain ⟨a_fr,ha0⟩:∃a,w.heap.size=a:=⟨_,rfl⟩
 obtain ⟨a_op,ha1⟩:∃a,w.heap.size+1=a:=⟨_,rfl⟩
 obtain ⟨a_res,ha2⟩:∃a,w.heap.size+2=a:=⟨_,rfl⟩
 have ge_fr:w.heap.size≤a_fr:=by omega
 have ge_op:w.heap.size≤a_op:=by omega
 have ge_res:w.heap.size≤a_res:=by omega
 have lt_fr_op:a_fr < a_op:=by omega
 have lt_fr_res:a_fr < a_res:=by omega
 have lt_op_res:a_op < a_res:=by omega
 rw [ha2] at k_res ⊢;rw [ha1] at k_op ⊢;have HA0:=qH ha0;have k_fr:Blk X a_fr 24 #[.slice A n c,.int .i64 re,.int .i64 lo]:=by rw [←ha0];exact k_fr
 have HA0:=qH ha0;clear ha1 ha2;go_wp2_with fail
 refine (zCz _).mono ?_;rintro e Xw ⟨A2,c2,rfl,r_al,hb⟩;have fr_al_fr:∀k,blk A2=some k→k≠a_fr:=fun k hk=>Nat.ne_of_gt (Nat.lt_of_lt_of_le k_fr.lt (r_al.lt k hk).1)
 have fr_al_op:∀k,blk A2=some k→k≠a_op:=fun k hk=>Nat.ne_of_gt (Nat.lt_of_lt_of_le k_op.lt (r_al.lt k hk).1)
 have fr_al_res:∀k,blk A2=some k→k≠a_res:=fun k hk=>Nat.ne_of_gt (Nat.lt_of_lt_of_le k_res.lt (r_al.lt k hk).1)
 have gr_al:=HB.out.size;replace k_fr:=k_fr.below hb k_fr.lt;replace k_op:=k_op.below hb k_op.lt;replace k_res:=k_res.below hb k_res.lt;replace HB:=qH (zAa HB.out hb HB.out.size);replace r_al:=r_al.mono gr_al;clear hb gr_al;have q1:=(Below.refl Xw.heap.size Xw).alloc (Nat.le_refl _) (.cells #[.slice A2 126 c2,.int .i64 0,.int .i64 1] 24);have lt_fr_all:=k_fr.lt;have lt_op_all:=k_op.lt;have lt_res_all:=k_res.lt;have fr_al_all:∀k,blk A2=some k→k≠Xw.heap.size:=fun k hk=>Nat.ne_of_lt (r_al.lt k hk).2
 have ge_all:=HB.out.size;replace k_fr:=k_fr.below q1 k_fr.lt;replace k_op:=k_op.below q1 k_op.lt;replace k_res:=k_res.below q1 k_res.lt;replace r_al:=r_al.below q1;replace HB:=qH (zAa HB.out q1 HB.out.size);have k_all:=Blk.new Xw 24 #[.slice A2 126 c2,.int .i64 0,.int .i64 1];clear q1;go_upto_region 3 with fail
 generalize Xw.alloc (.cells #[.slice A2 126 c2,.int .i64 0,.int .i64 1] 24)=Xa at k_fr k_op k_res k_all r_al HB ⊢;generalize hz_all:Xw.heap.size=a_all at k_all ge_all lt_fr_all lt_op_all lt_res_all fr_al_all ⊢;clear hz_all;have cfr_0:Xa.cell? ⟨a_fr,0,none⟩=some (.slice A n c):=(k_fr.cell 0).trans rfl;have cfr_1:Xa.cell? ⟨a_fr,1,none⟩=some (.int .i64 re):=(k_fr.cell 1).trans rfl;have cfr_2:Xa.cell? ⟨a_fr,2,none⟩=some (.int .i64 lo):=(k_fr.cell 2).trans rfl;have call_0:Xa.cell? ⟨a_all,0,none⟩=some (.slice A2 126 c2):=(k_all.cell 0).trans rfl;have call_1:Xa.cell? ⟨a_all,1,none⟩=some (.int .i64 0):=(k_all.cell 1).trans rfl;have call_2:Xa.cell? ⟨a_all,2,none⟩=some (.int .i64 1):=(k_all.cell 2).trans rfl;have cop_0:Xa.cell? ⟨a_op,0,none⟩=some (.int .i64 okind):=(k_op.cell 0).trans rfl;have cop_1:Xa.cell? ⟨a_op,1,none⟩=some (.int .i64 of):=(k_op.cell 1).trans rfl;have cop_2:Xa.cell? ⟨a_op,2,none⟩=some (.int .i64 off):=(k_op.cell 2).trans rfl;have cop_3:Xa.cell? ⟨a_op,3,none⟩=some (.int .i64 ofl):=(k_op.cell 3).trans rfl;have cop_4:Xa.cell? ⟨a_op,4,none⟩=some (.bool offar):=(k_op.cell 4).trans rfl;have cop_5:Xa.cell? ⟨a_op,5,none⟩=some (.int .i64 ofpc):=(k_op.cell 5).trans rfl;have cop_6:Xa.cell? ⟨a_op,6,none⟩=some (.slice B m d):=(k_op.cell 6).trans rfl;have cop_7:Xa.cell? ⟨a_op,7,none⟩=some (.bool oover):=(k_op.cell 7).trans rfl;go_wp2_with fail
 refine (zFh HF1.out HQ1.out _ (HA.out.below HB.out) (zEa r_al) hf1 hf2).mono ?_;rintro e Xb ⟨rfl,hb⟩;clear cfr_0 cfr_1 cfr_2 call_0 call_1 call_2 cop_0 cop_1 cop_2 cop_3 cop_4 cop_5 cop_6 cop_7;replace k_fr:=k_fr.below hb k_fr.lt;replace k_op:=k_op.below hb k_op.lt;replace k_res:=k_res.below hb k_res.lt;replace k_all:=k_all.below hb k_all.lt;replace r_al:=r_al.below hb;replace HB:=qH (zAa HB.out hb HB.out.size);clear hb;have zop_1:=k_op.frozen 1;have cop_1:Xb.cell? ⟨a_op,1,none⟩=some (.int .i64 of):=(k_op.cell 1).trans rfl;go_upto_region 4 with fail
 clear zop_1 cop_1;replace k_fr:=k_fr.far (p:=⟨a_op,1,none⟩) (Nat.ne_of_lt lt_fr_op) (.int .i64 F1);replace k_op:=k_op.set_ 1 (.int .i64 F1);replace k_res:=k_res.far (p:=⟨a_op,1,none⟩) (Nat.ne_of_gt lt_op_res) (.int .i64 F1);replace k_all:=k_all.far (p:=⟨a_op,1,none⟩) (Nat.ne_of_gt lt_op_all) (.int .i64 F1);replace r_al:=r_al.farSet 1 (.int .i64 F1) fr_al_op;replace HB:=qH (HB.out.setCell (p:=⟨a_op,1,none⟩) ge_op (.int .i64 F1));replace k_op:Blk (Xb.setCell ⟨a_op,1,none⟩ (.int .i64 F1)) a_op 32 #[.int .i64 okind,.int .i64 F1,.int .i64 off,.int .i64 ofl,.bool offar,.int .i64 ofpc,.slice B m d,.bool oover]:=k_op;generalize (Xb.setCell ⟨a_op,1,none⟩ (.int .i64 F1))=Xc at k_fr k_op k_res k_all r_al HB ⊢;have HB2:=qH (show 0 < off→1≤off∧off≤126 from fun h=>⟨by omega,hfr.2⟩);clear hfr HF1 HQ1 HF2 HQ2;have cop_0:Xc.cell? ⟨a_op,0,none⟩=some (.int .i64 okind):=(k_op.cell 0).trans rfl;have cop_1:Xc.cell? ⟨a_op,1,none⟩=some (.int .i64 F1):=(k_op.cell 1).trans rfl;have cop_2:Xc.cell? ⟨a_op,2,none⟩=some (.int .i64 off):=(k_op.cell 2).trans rfl;have cop_3:Xc.cell? ⟨a_op,3,none⟩=some (.int .i64 ofl):=(k_op.cell 3).trans rfl;have cop_4:Xc.cell? ⟨a_op,4,none⟩=some (.bool offar):=(k_op.cell 4).trans rfl;have cop_5:Xc.cell? ⟨a_op,5,none⟩=some (.int .i64 ofpc):=(k_op.cell 5).trans rfl;have cop_6:Xc.cell? ⟨a_op,6,none⟩=some (.slice B m d):=(k_op.cell 6).trans rfl;have cop_7:Xc.cell? ⟨a_op,7,none⟩=some (.bool oover):=(k_op.cell 7).trans rfl;go_upto_if 24 with fail
 clear cop_0 cop_1 cop_2 cop_3 cop_4 cop_5 cop_6 cop_7;go_cut [7] (fun v7 wv=>∃V:World,V=wv∧v7=.bool q2∧Blk V a_fr 24 #[.slice A n c,.int .i64 re,.int .i64 lo]∧Blk V a_all 24 #[.slice A2 126 c2,.int .i64 0,.int .i64 1]∧Blk V a_op 32 #[.int .i64 okind,.int .i64 F1,.int .i64 F2,.int .i64 ofl,.bool offar,.int .i64 ofpc,.slice B m d,.bool oover]∧Blk V a_res 32 #[.int .i64 0,.int .i64 0,.int .i64 0,.int .i64 0,.bool false,.int .i64 0,.slice none 0 0,.bool false]∧Row V w.heap.size 3 A2 126 c2 (AL.flatMap fgC)∧Hid (Below w.heap.size w V))
 case first =>
  by_cases h0:0 < off
  ·obtain ⟨hv,hq⟩:=HPO.out h0;have HV:=qH hv;have HQQ:=qH hq;obtain ⟨g1,g2⟩:=HB2.out h0;clear hv hq HPO HNE HB2;have cfr_0:Xc.cell? ⟨a_fr,0,none⟩=some (.slice A n c):=(k_fr.cell 0).trans rfl;have cfr_1:Xc.cell? ⟨a_fr,1,none⟩=some (.int .i64 re):=(k_fr.cell 1).trans rfl;have cfr_2:Xc.cell? ⟨a_fr,2,none⟩=some (.int .i64 lo):=(k_fr.cell 2).trans rfl;have call_0:Xc.cell? ⟨a_all,0,none⟩=some (.slice A2 126 c2):=(k_all.cell 0).trans rfl;have call_1:Xc.cell? ⟨a_all,1,none⟩=some (.int .i64 0):=(k_all.cell 1).trans rfl;have call_2:Xc.cell? ⟨a_all,2,none⟩=some (.int .i64 1):=(k_all.cell 2).trans rfl;have cop_0:Xc.cell? ⟨a_op,0,none⟩=some (.int .i64 okind):=(k_op.cell 0).trans rfl;have cop_1:Xc.cell? ⟨a_op,1,none⟩=some (.int .i64 F1):=(k_op.cell 1).trans rfl;have cop_2:Xc.cell? ⟨a_op,2,none⟩=some (.int .i64 off):=(k_op.cell 2).trans rfl;have cop_3:Xc.cell? ⟨a_op,3,none⟩=some (.int .i64 ofl):=(k_op.cell 3).trans rfl;have cop_4:Xc.cell? ⟨a_op,4,none⟩=some (.bool offar):=(k_op.cell 4).trans rfl;have cop_5:Xc.cell? ⟨a_op,5,none⟩=some (.int .i64 ofpc):=(k_op.cell 5).trans rfl;have cop_6:Xc.cell? ⟨a_op,6,none⟩=some (.slice B m d):=(k_op.cell 6).trans rfl;have cop_7:Xc.cell? ⟨a_op,7,none⟩=some (.bool oover):=(k_op.cell 7).trans rfl;go_wp2_with fail
   refine (zFh HV.out HQQ.out _ (HA.out.below HB.out) (zEa r_al) g1 g2).mono ?_;rintro e Xd ⟨rfl,hb⟩;clear cfr_0 cfr_1 cfr_2 call_0 call_1 call_2 cop_0 cop_1 cop_2 cop_3 cop_4 cop_5 cop_6 cop_7;replace k_fr:=k_fr.below hb k_fr.lt;replace k_op:=k_op.below hb k_op.lt;replace k_res:=k_res.below hb k_res.lt;replace k_all:=k_all.below hb k_all.lt;replace r_al:=r_al.below hb;replace HB:=qH (zAa HB.out hb HB.out.size);clear hb;have zop_2:=k_op.frozen 2;have cop_2:Xd.cell? ⟨a_op,2,none⟩=some (.int .i64 off):=(k_op.cell 2).trans rfl;have k_op2:Blk (Xd.setCell ⟨a_op,2,none⟩ (.int .i64 F2)) a_op 32 #[.int .i64 okind,.int .i64 F1,.int .i64 F2,.int .i64 ofl,.bool offar,.int .i64 ofpc,.slice B m d,.bool oover]:=k_op.set_ 2 _;have k_fr2:=k_fr.far (p:=⟨a_op,2,none⟩) (Nat.ne_of_lt lt_fr_op) (.int .i64 F2);have k_all2:=k_all.far (p:=⟨a_op,2,none⟩) (Nat.ne_of_gt lt_op_all) (.int .i64 F2);have k_res2:=k_res.far (p:=⟨a_op,2,none⟩) (Nat.ne_of_gt lt_op_res) (.int .i64 F2);have r_al2:=r_al.farSet 2 (.int .i64 F2) fr_al_op;have HB2:=qH (HB.out.setCell (p:=⟨a_op,2,none⟩) ge_op (.int .i64 F2));clear k_op k_fr k_all k_res r_al;go_wp2_with fail
   go_meet
   case rel=>exact ⟨_,rfl,rfl,k_fr2,k_all2,k_op2,k_res2,r_al2,HB2⟩
  ·obtain ⟨rfl,rfl⟩:=HNE.out (by omega);clear HPO HNE HB2;go_wp2_with fail
   go_meet
   case rel=>exact ⟨_,rfl,rfl,k_fr,k_all,k_op,k_res,r_al,HB⟩
 case rest =>
  clear k_fr k_all k_op k_res r_al HB HPO HNE HB2;obtain ⟨V,hV,rfl,k_fr,k_all,k_op,k_res,r_al,HB⟩:=hcut;subst hV;have cop_0:V.cell? ⟨a_op,0,none⟩=some (.int .i64 okind):=(k_op.cell 0).trans rfl;have cop_1:V.cell? ⟨a_op,1,none⟩=some (.int .i64 F1):=(k_op.cell 1).trans rfl;have cop_2:V.cell? ⟨a_op,2,none⟩=some (.int .i64 F2):=(k_op.cell 2).trans rfl;have cop_3:V.cell? ⟨a_op,3,none⟩=some (.int .i64 ofl):=(k_op.cell 3).trans rfl;have cop_4:V.cell? ⟨a_op,4,none⟩=some (.bool offar):=(k_op.cell 4).trans rfl;have cop_5:V.cell? ⟨a_op,5,none⟩=some (.int .i64 ofpc):=(k_op.cell 5).trans rfl;have cop_6:V.cell? ⟨a_op,6,none⟩=some (.slice B m d):=(k_op.cell 6).trans rfl;have cop_7:V.cell? ⟨a_op,7,none⟩=some (.bool oover):=(k_op.cell 7).trans rfl;have hm:=HM.out;go_upto_region 7 with (at_builtin;refine zEP ?_)
  refine qH ?_;refine dupP (B:=B) (m:=m) (d:=d) (P:=opath) rfl (.const (.slice none 0 0)) (.tmp 38) ?_ (HO.out.1.below HB.out) ?_ ?_ (by omega) V.heap.size (Nat.le_refl _) ?_
  ·rfl
  ·rfl
  ·rfl
  intro A3 c3 Y r_pr hb;clear cop_0 cop_1 cop_2 cop_3 cop_4 cop_5 cop_6 cop_7;have fr_pr_fr:∀k,blk A3=some k→k≠a_fr:=fun k hk=>Nat.ne_of_gt (Nat.lt_of_lt_of_le k_fr.lt (r_pr.lt k hk).1)
  have fr_pr_op:∀k,blk A3=some k→k≠a_op:=fun k hk=>Nat.ne_of_gt (Nat.lt_of_lt_of_le k_op.lt (r_pr.lt k hk).1)
  have fr_pr_res:∀k,blk A3=some k→k≠a_res:=fun k hk=>Nat.ne_of_gt (Nat.lt_of_lt_of_le k_res.lt (r_pr.lt k hk).1)
  have fr_pr_all:∀k,blk A3=some k→k≠a_all:=fun k hk=>Nat.ne_of_gt (Nat.lt_of_lt_of_le k_all.lt (r_pr.lt k hk).1)
  have fr_al_pr:∀k j,blk A2=some k→blk A3=some j→k≠j:=fun k j hk hj=>Nat.ne_of_lt (Nat.lt_of_lt_of_le (r_al.lt k hk).2 (r_pr.lt j hj).1)
  have gr_pr:=HB.out.size;replace k_fr:=k_fr.below hb k_fr.lt;replace k_op:=k_op.below hb k_op.lt;replace k_res:=k_res.below hb k_res.lt;replace k_all:=k_all.below hb k_all.lt;replace r_al:=r_al.below hb;replace HB:=qH (zAa HB.out hb HB.out.size);replace r_pr:=r_pr.mono gr_pr;clear hb gr_pr;go_upto_region 7 with fail
  go_wp2_with fail
  go_loopw [7,9] (fun v7 v9 wv=>∃(i:Nat) (V:World) (q:Bool),V=wv∧i≤m∧v9=.int .i64 i∧v7=.bool q∧Hid (q=zRS L opath q2 i)∧Blk V a_fr 24 #[.slice A n c,.int .i64 re,.int .i64 lo]∧Blk V a_all 24 #[.slice A2 126 c2,.int .i64 0,.int .i64 1]∧Blk V a_op 32 #[.int .i64 okind,.int .i64 F1,.int .i64 F2,.int .i64 ofl,.bool offar,.int .i64 ofpc,.slice B m d,.bool oover]∧Blk V a_res 32 #[.int .i64 0,.int .i64 0,.int .i64 0,.int .i64 0,.bool false,.int .i64 0,.slice none 0 0,.bool false]∧Row V w.heap.size 3 A2 126 c2 (AL.flatMap fgC)∧Row V w.heap.size 5 A3 m c3 ((zHm L opath i).flatMap zCj)∧Hid (Below w.heap.size w V)) (fun _ v9 _=>m-(intOf v9).toNat)
  case atStart=>exact ⟨0,_,q2,rfl,by omega,rfl,rfl,qH (by simp [zRS]),k_fr,k_all,k_op,k_res,r_al,by rw [zNz];exact r_pr,HB⟩
  case round =>
   clear k_fr k_all k_op k_res r_al r_pr HB;obtain ⟨i,X,q,hX,hi,rfl,rfl,HQI,k_fr,k_all,k_op,k_res,r_al,r_pr,HB⟩:=hrel;subst hX;by_cases hlt:i < m
   ·have j0:(0:Int)≤(i:Int):=by omega
    have j1:(i:Int) < (m:Int):=by omega
    obtain ⟨x,hx⟩:∃x,opath[i]? = some x:=⟨_,List.getElem?_eq_getElem (by rw [HLN.out];exact hlt)⟩
    obtain ⟨ga,oa,rfl,hga1,hga2⟩:=r_pr.form (by omega);obtain ⟨s1,s2⟩:=zRT L hx;have e0:X.cell? ⟨ga,oa+i*5,none⟩=some (.int .i64 x.s.f):=r_pr.cell (zPR s1);have hcap:=r_pr.cap;have ez:X.frozen? ⟨ga,oa+i*5,none⟩=false:=r_pr.free (by omega);obtain ⟨y,hy⟩:∃y,plA L x.s.f=y:=⟨_,rfl⟩
    obtain ⟨q',hq'⟩:∃q',(q&&decide (0 < y))=q':=⟨_,rfl⟩
    have HY:=qH hy;have HQ':=qH hq';have hnm:=zAj.1 (HPN.out x (List.mem_of_getElem? hx));have hf3:1≤x.s.f:=hnm.1;have hf4:x.s.f≤126:=hnm.2.1;have HQN:=qH (show q'=zRS L opath q2 (i+1) by rw [←zPQ L hx q2,←HQI.out,hy,hq']);rw [hy] at s2;have HS2:=qH s2;have HRP:=qH r_pr;have HGA:=qH (show ga < X.heap.size from hga2);have hn_fr:a_fr≠ga:=fun e=>fr_pr_fr ga rfl e.symm
    have hn_op:a_op≠ga:=fun e=>fr_pr_op ga rfl e.symm
    have hn_res:a_res≠ga:=fun e=>fr_pr_res ga rfl e.symm
    have hn_all:a_all≠ga:=fun e=>fr_pr_all ga rfl e.symm
    have hn_al:∀k,blk A2=some k→k≠ga:=fun k hk=>fr_al_pr k ga hk rfl
    generalize x.s.f=xf at e0 HY hf3 hf4;have HA1:=qH (HA.out.below HB.out);have HAL:=qH (zEa r_al);have K1:=qH k_fr;have K2:=qH k_all;have E0:=qH e0;have EZ:=qH ez;have KP:=qH (show ∀wx,Below X.heap.size X wx→(Below X.heap.size X wx∧wx.cell? ⟨a_fr,0,none⟩=some (.slice A n c)∧wx.cell? ⟨a_fr,1,none⟩=some (.int .i64 re)∧wx.cell? ⟨a_fr,2,none⟩=some (.int .i64 lo)∧wx.cell? ⟨a_all,0,none⟩=some (.slice A2 126 c2)∧wx.cell? ⟨a_all,1,none⟩=some (.int .i64 0)∧wx.cell? ⟨a_all,2,none⟩=some (.int .i64 1)∧wx.cell? ⟨ga,oa+i*5,none⟩=some (.int .i64 xf)) from fun wx h=>⟨h,(h.cell (p:=⟨a_fr,0,none⟩) K1.out.lt).trans ((K1.out.cell 0).trans rfl),(h.cell (p:=⟨a_fr,1,none⟩) K1.out.lt).trans ((K1.out.cell 1).trans rfl),(h.cell (p:=⟨a_fr,2,none⟩) K1.out.lt).trans ((K1.out.cell 2).trans rfl),(h.cell (p:=⟨a_all,0,none⟩) K2.out.lt).trans ((K2.out.cell 0).trans rfl),(h.cell (p:=⟨a_all,1,none⟩) K2.out.lt).trans ((K2.out.cell 1).trans rfl),(h.cell (p:=⟨a_all,2,none⟩) K2.out.lt).trans ((K2.out.cell 2).trans rfl),(h.cell (p:=⟨ga,oa+i*5,none⟩) HGA.out).trans E0.out⟩);have hI5:i*5 < c3*5:=by omega
    have gq0:X.cell? ⟨a_fr,0,none⟩=some (.slice A n c):=(K1.out.cell 0).trans rfl;have gq1:X.cell? ⟨a_fr,1,none⟩=some (.int .i64 re):=(K1.out.cell 1).trans rfl;have gq2:X.cell? ⟨a_fr,2,none⟩=some (.int .i64 lo):=(K1.out.cell 2).trans rfl;have gq3:X.cell? ⟨a_all,0,none⟩=some (.slice A2 126 c2):=(K2.out.cell 0).trans rfl;have gq4:X.cell? ⟨a_all,1,none⟩=some (.int .i64 0):=(K2.out.cell 1).trans rfl;have gq5:X.cell? ⟨a_all,2,none⟩=some (.int .i64 1):=(K2.out.cell 2).trans rfl;clear hx s1 s2 hy hq' hnm ez HQI;go_upto_region 10 with fail
    have j2:i < m:=hlt;go_region_with (go_at_call 103;(first | refine (zFh HY.out HQ'.out _ HA1.out HAL.out hf3 hf4).mono ?_ | refine (zFh HY.out HQ'.out _ (HA1.out.below (Below.refl X.heap.size X).drew) (HAL.out.below (Below.refl X.heap.size X).drew) hf3 hf4).mono ?_);rintro e wd ⟨rfl,hbd⟩;have hbq:Below X.heap.size X wd:=zAa ((Below.refl X.heap.size X).drew) hbd (Nat.le_refl _);have hst:wd.cell? ⟨ga,oa+i*5,none⟩=some (.int .i64 xf):=(hbq.cell (p:=⟨ga,oa+i*5,none⟩) HGA.out).trans E0.out;have hfz:wd.frozen? ⟨ga,oa+i*5,none⟩=false:=(HRP.out.below hbq).free (by omega))
    all_goals
     clear gq0 gq1 gq2 gq3 gq4 gq5 KP;have k_fr2:=(k_fr.below hbq k_fr.lt).far (p:=⟨ga,oa+i*5,none⟩) hn_fr (.int .i64 y);have k_all2:=(k_all.below hbq k_all.lt).far (p:=⟨ga,oa+i*5,none⟩) hn_all (.int .i64 y);have k_op2:=(k_op.below hbq k_op.lt).far (p:=⟨ga,oa+i*5,none⟩) hn_op (.int .i64 y);have k_res2:=(k_res.below hbq k_res.lt).far (p:=⟨ga,oa+i*5,none⟩) hn_res (.int .i64 y);have r_al2:=(r_al.below hbq).farSet (oa+i*5) (.int .i64 y) hn_al;have r_pr2:=(HRP.out.below hbq).put (q:=i*5) (by omega) (.int .i64 y);have HB2:=qH ((zAa HB.out hbq HB.out.size).setCell (p:=⟨ga,oa+i*5,none⟩) hga1 (.int .i64 y));rw [HS2.out] at r_pr2;have HFIN:=qH (And.intro k_fr2 (And.intro k_all2 (And.intro k_op2 (And.intro k_res2 (And.intro r_al2 (And.intro r_pr2 HB2))))));clear k_fr2 k_all2 k_op2 k_res2 r_al2 r_pr2 HB2 k_fr k_all k_op k_res r_al r_pr hst hfz hbd;go_wp2_with fail
     go_roundw
     case rel=>exact ⟨i+1,_,q',rfl,by omega,by go_num,rfl,HQN,HFIN.out⟩
     case measure=>simp [intOf];omega
   ·have j1:¬(i:Int) < (m:Int):=by omega
    have hS:zHm L opath i=opath.map (zNK L):=by rw [show i=opath.length by rw [HLN.out];omega];exact zPP L opath
    have hQ:q=zRS L opath q2 opath.length:=by rw [HQI.out,show i=opath.length by rw [HLN.out];omega]
    rw [hS] at r_pr;have HQF:=qH hQ;clear hS hQ HQI hlt;have HRP:=qH (show (opath.map (zNK L)).length=m by rw [List.length_map,HLN.out]);have zop_6:=k_op.frozen 6;have cop_6:X.cell? ⟨a_op,6,none⟩=some (.slice B m d):=(k_op.cell 6).trans rfl;go_upto_region 12 with fail
    clear zop_6 cop_6;replace k_fr:=k_fr.far (p:=⟨a_op,6,none⟩) (Nat.ne_of_lt lt_fr_op) (.slice A3 m c3);replace k_op:=k_op.set_ 6 (.slice A3 m c3);replace k_res:=k_res.far (p:=⟨a_op,6,none⟩) (Nat.ne_of_gt lt_op_res) (.slice A3 m c3);replace k_all:=k_all.far (p:=⟨a_op,6,none⟩) (Nat.ne_of_gt lt_op_all) (.slice A3 m c3);replace r_al:=r_al.farSet 6 (.slice A3 m c3) fr_al_op;replace r_pr:=r_pr.farSet 6 (.slice A3 m c3) fr_pr_op;replace HB:=qH (HB.out.setCell (p:=⟨a_op,6,none⟩) ge_op (.slice A3 m c3));replace k_op:Blk (X.setCell ⟨a_op,6,none⟩ (.slice A3 m c3)) a_op 32 #[.int .i64 okind,.int .i64 F1,.int .i64 F2,.int .i64 ofl,.bool offar,.int .i64 ofpc,.slice A3 m c3,.bool oover]:=k_op;generalize (X.setCell ⟨a_op,6,none⟩ (.slice A3 m c3))=Z at k_fr k_op k_res k_all r_al r_pr HB ⊢;have cop_0:Z.cell? ⟨a_op,0,none⟩=some (.int .i64 okind):=(k_op.cell 0).trans rfl;have cop_1:Z.cell? ⟨a_op,1,none⟩=some (.int .i64 F1):=(k_op.cell 1).trans rfl;have cop_2:Z.cell? ⟨a_op,2,none⟩=some (.int .i64 F2):=(k_op.cell 2).trans rfl;have cop_3:Z.cell? ⟨a_op,3,none⟩=some (.int .i64 ofl):=(k_op.cell 3).trans rfl;have cop_4:Z.cell? ⟨a_op,4,none⟩=some (.bool offar):=(k_op.cell 4).trans rfl;have cop_5:Z.cell? ⟨a_op,5,none⟩=some (.int .i64 ofpc):=(k_op.cell 5).trans rfl;have cop_6:Z.cell? ⟨a_op,6,none⟩=some (.slice A3 m c3):=(k_op.cell 6).trans rfl;have cop_7:Z.cell? ⟨a_op,7,none⟩=some (.bool oover):=(k_op.cell 7).trans rfl;have cres_0:Z.cell? ⟨a_res,0,none⟩=some (.int .i64 0):=(k_res.cell 0).trans rfl;have cres_1:Z.cell? ⟨a_res,1,none⟩=some (.int .i64 0):=(k_res.cell 1).trans rfl;have cres_2:Z.cell? ⟨a_res,2,none⟩=some (.int .i64 0):=(k_res.cell 2).trans rfl;have cres_3:Z.cell? ⟨a_res,3,none⟩=some (.int .i64 0):=(k_res.cell 3).trans rfl;have cres_4:Z.cell? ⟨a_res,4,none⟩=some (.bool false):=(k_res.cell 4).trans rfl;have cres_5:Z.cell? ⟨a_res,5,none⟩=some (.int .i64 0):=(k_res.cell 5).trans rfl;have cres_6:Z.cell? ⟨a_res,6,none⟩=some (.slice none 0 0):=(k_res.cell 6).trans rfl;have cres_7:Z.cell? ⟨a_res,7,none⟩=some (.bool false):=(k_res.cell 7).trans rfl;have zres_0:=k_res.frozen 0;have zres_1:=k_res.frozen 1;have zres_2:=k_res.frozen 2;have zres_3:=k_res.frozen 3;have zres_4:=k_res.frozen 4;have zres_5:=k_res.frozen 5;have zres_6:=k_res.frozen 6;have zres_7:=k_res.frozen 7;have SV:=qH (k_res.store8 (.int .i64 okind) (.int .i64 F1) (.int .i64 F2) (.int .i64 ofl) (.bool offar) (.int .i64 ofpc) (.slice A3 m c3) (.bool oover));have BV:=qH (zAd HB.out ge_res (.int .i64 okind) (.int .i64 F1) (.int .i64 F2) (.int .i64 ofl) (.bool offar) (.int .i64 ofpc) (.slice A3 m c3) (.bool oover));have RV:=qH (r_pr.store8of fr_pr_res (.int .i64 okind) (.int .i64 F1) (.int .i64 F2) (.int .i64 ofl) (.bool offar) (.int .i64 ofpc) (.slice A3 m c3) (.bool oover));have FIN:=qH (SetGives.of (o:=⟨okind,F1,⟨F2,ofl,offar,ofpc⟩,opath.map (zNK L),oover⟩) HQF.out RV.out HRP.out.symm BV.out);clear k_fr k_all k_op k_res r_al r_pr RV BV;go_wp2_with fail
    exact zAV rfl rfl rfl SV.out Tryz.underlying32 rfl (by kernel_rfl) rfl FIN.out
theorem stepP {w:World} {ops:Array Oper} {o:Oper} {a:Act} {K:Act→World→Prop} {Q':Exit→Act→World→Prop} {E:Prop} (hgd:o.guard=none) (s x:Operand)
  (ho:o.op=.call { callee:=.builtin .append,args:=#[s,x],argTypes:=#[30,30] })
  {base:Nat} {A:Option Addr} {n c:Nat} {P:List Sp} (y:Sp) (hs:a.eval s=.slice A n c) (hx:a.eval x=.slice (some ⟨w.heap.size,0,none⟩) 1 1)
  (hst:Row w base 5 A n c (P.flatMap zCj)) (N:Nat) (hN:n+1=N) (hn:N≤1000000) (hbase:base≤w.heap.size)
  (h:∀A' c' w',Row w' base 5 A' N c' ((P++[y]).flatMap zCj)→Below base w w'→w.grownBy w' (blk A)→K (a.put o.dst (.slice A' N c')) w') :
  if Region.wanted o (yielded ops a.tmps)=true then Oper.wp Tryz.prog o a (w.alloc (.cells #[.int .i64 y.s.f,.int .i64 y.s.l,.bool y.s.far,.int .i64 y.s.pc,.bool y.over] 86)) K Q' else E:=by
 obtain ⟨i0,hi,hz0,hz1,hz2⟩:=info_parts zJT;have hbl:=(Below.refl w.heap.size w).alloc (Nat.le_refl _) (.cells #[.int .i64 y.s.f,.int .i64 y.s.l,.bool y.s.far,.int .i64 y.s.pc,.bool y.over] 86);have hst1:=hst.below hbl
 refine zQw hgd s x 30 ho 86 i0 _ 5 40 Tryz.underlying30 hi hz0 hz1 hz2 rfl (by decide) hst1 (Src.new (m:=1) (cs:=zCj y) rfl)
  (by intro u hu;simp [zCj] at hu;rcases hu with rfl | rfl | rfl | rfl | rfl<;>rfl) hs hx N hN (by unfold maxLen;omega) (by omega) (by simp;omega) ?_
 intro A' c' w' h1 h2 _ _;refine h A' c' w' (by rw [List.flatMap_append];simpa using h1) ?_ (zAb (zCS hbl _) h2);exact ((Below.refl _ _).alloc hbase _).trans (hst1.belowOf h2 (by simp;omega))
theorem zVN {w:World} {ops:Array Oper} {o:Oper} {a:Act} {K:Act→World→Prop} {Q':Exit→Act→World→Prop} {E:Prop} (hgd:o.guard=none) (s x:Operand)
  (ho:o.op=.call { callee:=.builtin .append,args:=#[s,x],argTypes:=#[30,30] })
  {base g:Nat} {A:Option Addr} {n c:Nat} {P:List Sp} (y:Sp) (hs:a.eval s=.slice A n c) (hx:a.eval x=.slice (some ⟨g,0,none⟩) 1 1)
  (hk:Blk w g 86 (zCj y).toArray) (hst:Row w base 5 A n c (P.flatMap zCj)) (N:Nat) (hN:n+1=N) (hn:N≤1000000) (hbase:base≤w.heap.size)
  (h:∀A' c' w',Row w' base 5 A' N c' ((P++[y]).flatMap zCj)→Below base w w'→w.grownBy w' (blk A)→K (a.put o.dst (.slice A' N c')) w') :
  if Region.wanted o (yielded ops a.tmps)=true then Oper.wp Tryz.prog o a w K Q' else E:=by
 obtain ⟨i0,hi,hz0,hz1,hz2⟩:=info_parts zJT
 refine zQw hgd s x 30 ho 86 i0 _ 5 40 Tryz.underlying30 hi hz0 hz1 hz2 rfl (by decide) hst (m:=1) (news:=zCj y) ⟨rfl,fun _=>⟨⟨g,0,none⟩,rfl,hk.lt,fun j u hu=>?_⟩⟩
  (by intro u hu;simp [zCj] at hu;rcases hu with rfl | rfl | rfl | rfl | rfl<;>rfl) hs hx N hN (by unfold maxLen;omega) (by omega) hbase ?_
 ·rw [Addr.add_lit,Nat.zero_add,hk.cell,List.getElem?_toArray];exact hu
 ·intro A' c' w' h1 h2 _ _;exact h A' c' w' (by rw [List.flatMap_append];simpa using h1) (hst.belowOf h2 hbase) h2
def OpG (w0:World) (o:Og) (e:Ending) (w':World):Prop:=∃B m d,e=.returned (opV o B m d)∧Row w' w0.heap.size 5 B m d (o.path.flatMap zCj)∧m=o.path.length∧Below w0.heap.size w0 w'
theorem OpG.of {w0 w':World} {o:Og} {B:Option Addr} {m d:Nat} (hrow:Row w' w0.heap.size 5 B m d (o.path.flatMap zCj)) (hm:m=o.path.length) (hb:Below w0.heap.size w0 w') :
  OpG w0 o (.returned (opV o B m d)) w':=⟨B,m,d,rfl,hrow,hm,hb⟩
end Go.Proofs.YtlmdfmnbcndhoaaGreatDoor
