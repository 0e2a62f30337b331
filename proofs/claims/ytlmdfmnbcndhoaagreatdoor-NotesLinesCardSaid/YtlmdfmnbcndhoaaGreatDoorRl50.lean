/-
  Lemmas, part 50. Conditions: each theorem's own.
-/
import Derived.Test.YtlmdfmnbcndhoaaGreatDoorRl49
import Derived.Test.YtlmdfmnbcndhoaaGreatDoorRl04
import Derived.Test.YtlmdfmnbcndhoaaGreatDoorRl05
import Derived.Test.YtlmdfmnbcndhoaaGreatDoorRl01
import Derived.Lib.LaidTab
import Derived.HandedShaped
import Derived.Lay
import Derived.Stop.LaidErr
import Derived.Shelf.Vars
import Derived.Lib.SmallJoins
import Derived.Deep.Slices
import Derived.Deep.Fields
import Derived.ChangeSame
import Derived.ChangeMaps5
namespace Go.Proofs.YtlmdfmnbcndhoaaGreatDoor
open Go.ChangeShapes Go.WideShapes Go.ChangeAt Go.WideElems Go.RowKit Go.Deep Go.Joins
set_option maxRecDepth 100000
theorem own:ownKnob Tryz.prog.godebug=none:=by kernel_rfl
theorem zSJ:laidOutB Tryz.prog=true:=by kernel_rfl
theorem zSK:reachBytes=140737488351232:=by kernel_rfl
theorem zEb {H:Type} {enc:TypeId×Value→H} {a:Assume} {C:Checked} {os:Os} {f:FuncId} {fn:Func} {s:ChangeSpec} {conds:List PathCond} {apart fresh handsOn again:Bool} {X:World→Array Value→Prop}
  (hX:∀(w w':World) (args:Array Value),w.heap=w'.heap→X w args→X w' args)
  (own:ownKnob C.prog.godebug=none) (started:os.Started) (noInit:C.prog.inits.idxOf? f=none) (hfn:C.prog.funcs[f]? = some fn)
  (witness:∃(w:World) (tape:Tape) (i:Input),w.os=os∧(w.forCall tape i).Shaped C.prog∧i.vars=[]∧Input.okWide C.prog (w.forCall tape i) .any w.heap.size f i ∧
   ((s.pre enc C.prog fn conds apart (w.forCall tape i).memory i.args∧X (w.forCall tape i).memory i.args)∧sizedMet enc C.prog fn (OpenSpec.ofChange s) apart (w.forCall tape i).memory i.args)∧a.holds C.prog (lone (Frame.enter C.prog f i.args .normal) [] (w.forCall tape i)))
  (contract:∀(W:World) (base:Nat) (args:Array Value) (ds gs:List (DataW H)) (before:List MemPlace),
   (∀(j:Nat) t v,fn.params[j]? = some t→args[j]? = some v→Value.okWide C.prog W .any base t v) →
   DataW.Whole enc C.prog fn.params.toList s.vars apart W args.toList ds gs before →
   conds.all (PathCond.test C.prog ⟨fn.params.toList,ds,s.plain.varTypes C.prog,gs⟩)=true →
   (DataW.weightsEach C.prog (fn.params.toList++s.plain.varTypes C.prog) (ds++gs)).all (·≤reachBytes)=true→X W args→W.ShapedOpen C.prog →
   a.holds C.prog (lone (Frame.enter C.prog f args .normal) [] W) →
   Calls C.prog f args W fun e W'=>∃v,e=.returned v∧s.post enc C.prog fn apart fresh handsOn again W args v W') :
  ReturnsInHanded a C os f .any (fun w args=>(s.pre enc C.prog fn conds apart w args∧X w args)∧sizedMet enc C.prog fn (OpenSpec.ofChange s) apart w args) (s.post enc C.prog fn apart fresh handsOn again):=by
 refine returnsInHanded_of_calls own started noInit witness ?_;intro w tape i _ hsh _ hok hpre hholds;obtain ⟨_,_,_,fn',BT,_,_,_,_,hval⟩:=hok;have e:fn'=fn:=Option.some.inj (BT.symm.trans hfn);subst e;obtain ⟨⟨⟨ds,gs,before,hw,hc⟩,hx⟩,hz⟩:=hpre;have hw':=DataW.Whole.of_heap (w':=w.forCall tape i) (by rfl) hw;refine (contract (w.forCall tape i) w.heap.size i.args ds gs before hval hw' hc (hz.weights hw) (hX _ _ _ (by rfl) hx) hsh hholds).mono fun e W' ⟨v,he,hp⟩=>?_
 subst he;exact ChangeSpec.post_blind hp
def zBf:List (String×DataW Unit):=Rows.notesBackRow.laid
theorem zDL:∀w,laidMetH Tryz.prog zBf w=laidMet Tryz.prog zBf w:=fun w=>MakeChecks.laidMetH_plain _ _ _ (by kernel_rfl)
theorem zQG (os:Os) (args:Array Value):laidMetH Tryz.prog zBf ((World.laidAll Tryz.prog os zBf).forCall (fun _ _=>0) ⟨#[],args,[]⟩).memory:=by
 rw [zDL];exact laidMet_laidAll _ (by kernel_rfl) (by kernel_rfl)
theorem zVm (os:Os):(World.laidAll Tryz.prog os zBf).Shaped Tryz.prog:=World.shaped_of_ZipB (by kernel_rfl) (by kernel_rfl)
theorem zQH:Tryz.prog.cellsOf 235=1:=by kernel_rfl
theorem zVn {W:World} (h0:laidMetH Tryz.prog zBf W) (hs:W.ShapedOpen Tryz.prog):Tabs W:=by
 have h:laidMet Tryz.prog zBf W:=by rw [←zDL];exact h0
 have h3:=h.tail.tail;refine ⟨?_,Go.Proofs.cell_of_shapedOpen_int (zero:=#[.int .i64 0]) (t:=3) hs (of_decide_eq_true (by kernel_rfl)) (by kernel_rfl) rfl (by kernel_rfl) (by kernel_rfl) Tryz.underlying3⟩;exact Lib.tabIs_of_head (g:=1) (k:=.u64) (zs:=Lib.pow10Tab) (rest:=_) (by kernel_rfl) (by kernel_rfl) Tryz.underlying242 Tryz.underlying235 zQH (by kernel_rfl) h3
theorem zJB:Tryz.prog.readableRec 24=true∧24 < Tryz.prog.types.size:=⟨by kernel_rfl,of_decide_eq_true (by kernel_rfl)⟩
theorem zQI:Tryz.prog.readableRec 38=true∧38 < Tryz.prog.types.size:=⟨by kernel_rfl,of_decide_eq_true (by kernel_rfl)⟩
theorem zQJ:Tryz.prog.readableRec 9=true∧9 < Tryz.prog.types.size:=⟨by kernel_rfl,of_decide_eq_true (by kernel_rfl)⟩
section
variable {H:Type} {enc:TypeId×Value→H} {W:World} {base:Nat} {spare:Nat→Bool} {held:Bool}
theorem zKR {t:TypeId} {fs:Array Field} {fuel:Nat} {cs:List Value} {x:DataW H×List MemPlace} (ht:Tryz.prog.underlying t=some (.struct fs)) (h:DataW.trod enc Tryz.prog W base spare held fuel t cs=some x) :
  ∃m,cs.length=Tryz.prog.cellsOf t∧∀(j:Nat) (f:Field),fs[j]? = some f→∃y,DataW.trod enc Tryz.prog W base spare held m f.type ((cs.drop f.offset).take (Tryz.prog.cellsOf f.type))=some y∧∀n∈y.1.weights Tryz.prog f.type,n∈x.1.weights Tryz.prog t:=by
 obtain ⟨xs,m,_,rfl,hl,hxl,hf⟩:=DataW.trod_struct ht h;refine ⟨m,hl,fun j f hj=>?_⟩;have h1:=hf j f hj;have hjl:j < xs.length:=by rw [hxl];exact (Array.getElem?_eq_some_iff.1 hj).1
 rw [List.getElem?_eq_getElem hjl] at h1;refine ⟨xs[j],h1,?_⟩;intro n hn;unfold DataW.weights;rw [ht];exact DataW.weights_mem_each (j:=j) (t:=f.type) (d:=(xs[j]).1) (by rw [List.getElem?_map,Array.getElem?_toList,hj];rfl) (by rw [List.getElem?_map,List.getElem?_eq_getElem hjl];rfl) n hn
theorem zGk {fuel:Nat} {cs:List Value} {x:DataW H×List MemPlace} (h:DataW.trod enc Tryz.prog W base spare held fuel 3 cs=some x):∃k:Int,I64 k∧cs=[.int .i64 k]:=by
 obtain ⟨k,e,_,w⟩:=DataW.trod_int (k:=.i64) Tryz.underlying3 h;exact ⟨k,bounds_i64 w,e⟩
theorem zJC {fuel:Nat} {cs:List Value} {x:DataW H×List MemPlace} (h:DataW.trod enc Tryz.prog W base spare held fuel 4 cs=some x):∃b:Bool,cs=[.bool b]:=by
 obtain ⟨b,e,_⟩:=DataW.trod_bool Tryz.underlying4 h;exact ⟨b,e⟩
theorem zVo {fuel:Nat} {cs:List Value} {x:DataW H×List MemPlace} (h:DataW.trod enc Tryz.prog W base spare held fuel 27 cs=some x):∃k:Int,I64 k∧cs=[.int .i64 k]:=by
 obtain ⟨k,e,_,w⟩:=DataW.trod_int (k:=.i64) Tryz.underlying27 h;exact ⟨k,bounds_i64 w,e⟩
theorem zXF {α:Type} {l:List α} (h:l.length=3):∃a b c,l=[a,b,c]:=by
 match l,h with
 | [a,b,c],_=>exact ⟨a,b,c,rfl⟩
theorem zXG {α:Type} {l:List α} (h:l.length=4):∃a b c d,l=[a,b,c,d]:=by
 match l,h with
 | [a,b,c,d],_=>exact ⟨a,b,c,d,rfl⟩
theorem zXH {α:Type} {l:List α} (h:l.length=5):∃a b c d e,l=[a,b,c,d,e]:=by
 match l,h with
 | [a,b,c,d,e],_=>exact ⟨a,b,c,d,e,rfl⟩
theorem zXI {α:Type} {l:List α} (h:l.length=8):∃a b c d e f g i,l=[a,b,c,d,e,f,g,i]:=by
 match l,h with
 | [a,b,c,d,e,f,g,i],_=>exact ⟨a,b,c,d,e,f,g,i,rfl⟩
theorem zGl:Tryz.prog.cellsOf 90=3:=by kernel_rfl
theorem zDM:Tryz.prog.cellsOf 29=4:=by kernel_rfl
theorem zIs:Tryz.prog.cellsOf 86=5:=by kernel_rfl
theorem zNg:Tryz.prog.cellsOf 32=8:=by kernel_rfl
theorem zFr:Tryz.prog.cellsOf 3=1:=by kernel_rfl
theorem zDX:Tryz.prog.cellsOf 4=1:=by kernel_rfl
theorem zOn:Tryz.prog.cellsOf 27=1:=by kernel_rfl
theorem zMh:Tryz.prog.cellsOf 30=1:=by kernel_rfl
theorem zXJ {fuel:Nat} {cs:List Value} {x:DataW H×List MemPlace} (h:DataW.trod enc Tryz.prog W base spare held fuel 90 cs=some x):∃f:Fg,FgOk f∧cs=zWL f:=by
 obtain ⟨m,hl,hk⟩:=zKR Tryz.underlying90 h;rw [zGl] at hl;obtain ⟨c0,c1,c2,rfl⟩:=zXF hl;obtain ⟨y0,h0,_⟩:=hk 0 _ rfl;obtain ⟨y1,h1,_⟩:=hk 1 _ rfl;obtain ⟨y2,h2,_⟩:=hk 2 _ rfl;simp only [List.getElem_toArray,List.getElem_cons_zero,List.getElem_cons_succ,zFr,zDX] at h0 h1 h2;obtain ⟨p,hp,e0⟩:=zGk h0;obtain ⟨r,e1⟩:=zJC h1;obtain ⟨d,hd,e2⟩:=zGk h2;simp only [List.drop_zero,List.drop_succ_cons,List.take_succ_cons,List.take_zero,List.cons.injEq,and_true] at e0 e1 e2;subst e0;subst e1;subst e2
 exact ⟨⟨p,r,d⟩,⟨hp,hd⟩,rfl⟩
theorem zWJ {fuel:Nat} {cs:List Value} {x:DataW H×List MemPlace} (h:DataW.trod enc Tryz.prog W base spare held fuel 29 cs=some x):∃s:Sg,SgOk s∧cs=zWZ s:=by
 obtain ⟨m,hl,hk⟩:=zKR Tryz.underlying29 h;rw [zDM] at hl;obtain ⟨c0,c1,c2,c3,rfl⟩:=zXG hl;obtain ⟨y0,h0,_⟩:=hk 0 _ rfl;obtain ⟨y1,h1,_⟩:=hk 1 _ rfl;obtain ⟨y2,h2,_⟩:=hk 2 _ rfl;obtain ⟨y3,h3,_⟩:=hk 3 _ rfl;simp only [List.getElem_toArray,List.getElem_cons_zero,List.getElem_cons_succ,zFr,zDX] at h0 h1 h2 h3;obtain ⟨p,hp,e0⟩:=zGk h0;obtain ⟨l,hll,e1⟩:=zGk h1;obtain ⟨r,e2⟩:=zJC h2;obtain ⟨d,hd,e3⟩:=zGk h3;simp only [List.drop_zero,List.drop_succ_cons,List.take_succ_cons,List.take_zero,List.cons.injEq,and_true] at e0 e1 e2 e3;subst e0;subst e1;subst e2;subst e3
 exact ⟨⟨p,l,r,d⟩,⟨hp,hll,hd⟩,rfl⟩
theorem zXK {fuel:Nat} {cs:List Value} {x:DataW H×List MemPlace} (h:DataW.trod enc Tryz.prog W base spare held fuel 86 cs=some x):∃s:Sp,SgOk s.s∧cs=zCa s:=by
 obtain ⟨m,hl,hk⟩:=zKR Tryz.underlying86 h;rw [zIs] at hl;obtain ⟨c0,c1,c2,c3,c4,rfl⟩:=zXH hl;obtain ⟨y0,h0,_⟩:=hk 0 _ rfl;obtain ⟨y1,h1,_⟩:=hk 1 _ rfl;simp only [List.getElem_toArray,List.getElem_cons_zero,List.getElem_cons_succ,zDM,zDX] at h0 h1;obtain ⟨s,hs,e0⟩:=zWJ h0;obtain ⟨r,e1⟩:=zJC h1;simp only [List.drop_zero,List.drop_succ_cons,List.take_succ_cons,List.take_zero,List.cons.injEq,and_true,zWZ] at e0 e1;obtain ⟨rfl,rfl,rfl,rfl⟩:=e0;subst e1;exact ⟨⟨s,r⟩,hs,rfl⟩
theorem zQK {α:Type} {t e:TypeId} {sz:Nat} {en:α→List Value} {ok:α→Prop} {fuel:Nat} {v:List Value} {y:DataW H×List MemPlace} (d0:α) (ht:Tryz.prog.underlying t=some (.slice e)) (hsz:Tryz.prog.cellsOf e=sz) (hpos:0 < sz)
  (hby:8≤Tryz.prog.bytesOf e) (hlen:∀x:α,(en x).length=sz)
  (hdec:∀(n:Nat) (cs:List Value) (z:DataW H×List MemPlace),DataW.trod enc Tryz.prog W 0 (fun _=>true) true n e cs=some z→(∀k∈z.1.weights Tryz.prog e,k∈y.1.weights Tryz.prog t)→∃x:α,ok x∧cs=en x)
  (hw:∀k∈y.1.weights Tryz.prog t,k≤reachBytes)
  (h:DataW.trod enc Tryz.prog W 0 (fun _=>true) true fuel t v=some y):∃A n c L,v=[.slice A n c]∧Els sz en W A n L∧(∀x∈L,ok x)∧n≤c∧n*Tryz.prog.bytesOf e≤140737488351232:=by
 rcases open_slice ht h with ⟨hcs,_⟩ | ⟨a,len,cap,mm,nn,D,Pl,hcs,_,hl,_,hmm,hx,hi⟩
 ·exact ⟨none,0,0,[],hcs,Els.nil _ _,by simp,Nat.le_refl _,by omega⟩
 ·simp only [if_true] at hmm;subst hmm;rw [hsz] at hi;have hwts:∀i,i < mm→∀k∈(D i).weights Tryz.prog e,k∈y.1.weights Tryz.prog t:=by
   intro i him k hk;rw [hx];unfold DataW.weights;rw [ht];simp only;refine List.mem_cons_of_mem _ ?_;have hm:∀(l:List (DataW H)) (d:DataW H),d∈l→∀k∈d.weights Tryz.prog e,k∈DataW.weightsAll Tryz.prog e l:=by
    intro l
    induction l with
    | nil=>intro d hd;simp at hd
    | cons a l ih =>
     intro d hd k hk;unfold DataW.weightsAll;rcases List.mem_cons.1 hd with rfl | hd
     ·exact List.mem_append_left _ hk
     ·exact List.mem_append_right _ (ih d hd k hk)
   rcases Nat.lt_or_ge i len with h | h
   ·exact List.mem_append_left _ (hm _ (D i) (List.mem_map.2 ⟨i,List.mem_range.2 h,rfl⟩) k hk)
   ·exact List.mem_append_right _ (hm _ (D i) (List.mem_map.2 ⟨i-len,List.mem_range.2 (by omega),by rw [show len+(i-len)=i by omega]⟩) k hk)
  have EG:(len+(mm-len))*Tryz.prog.bytesOf e≤reachBytes:=by
   refine hw _ ?_;rw [hx];unfold DataW.weights;rw [ht];simp only [List.length_map,List.length_range,List.mem_cons,true_or]
  rw [zSK] at EG;have hbound:len≤17592186043904:=by
   have:len*8≤(len+(mm-len))*Tryz.prog.bytesOf e:=Nat.mul_le_mul (by omega) hby;omega
  have hrec:∀i,i < mm→∃x:α,ok x∧∀q u,(en x)[q]? = some u→W.cell? ((a.add (i*sz)).add q)=some u:=by
   intro i him;obtain ⟨cs',hc,hd⟩:=hi i him;obtain ⟨x,hok,he⟩:=hdec _ _ _ hd (hwts i him);obtain ⟨_,hcl,hcell⟩:=World.cells?_some hc;refine ⟨x,hok,fun q u hq=>?_⟩;have hql:=(List.getElem?_eq_some_iff.1 hq).1;rw [hcell q (by rw [hlen] at hql;exact hql),he];exact hq
  let lf:Nat→α:=fun i=>if h:i < mm then Classical.choose (hrec i h) else d0
  have hlf:∀i,i < mm→ok (lf i)∧∀q u,(en (lf i))[q]? = some u→W.cell? ((a.add (i*sz)).add q)=some u:=by
   intro i him;have:lf i=Classical.choose (hrec i him):=dif_pos him;rw [this];exact Classical.choose_spec (hrec i him)
  clear_value lf
  refine ⟨some a,len,mm,(List.range len).map lf,hcs,⟨by simp,hbound,fun hn=>?_⟩,fun x hx=>?_,hl,Nat.le_trans (Nat.mul_le_mul_right _ (by omega)) EG⟩
  ·have Aq:=(hlf 0 (by omega)).2 0 ((en (lf 0))[0]'(by rw [hlen];omega)) (List.getElem?_eq_getElem _);have ea:(a.add (0*sz)).add 0=a:=by simp [Addr.add]
   rw [ea] at Aq;have hsp:=World.cell?_spot Aq;have hae:a=⟨a.block,a.off,none⟩:=by cases a;simp at hsp;subst hsp;rfl
   refine ⟨a.block,a.off,by rw [←hae],World.block_lt_of_cell? _ _ Aq,fun j x hx q u hu=>?_⟩;rw [List.getElem?_map] at hx;obtain ⟨i,ug,rfl⟩:=Option.map_eq_some_iff.1 hx;have hj:j < len:=by
    have:=(List.getElem?_eq_some_iff.1 ug).1;simpa using this
   rw [List.getElem?_range hj] at ug;injection ug with ug
   subst ug;have hq:(a.add (j*sz)).add q=⟨a.block,a.off+j*sz+q,none⟩:=by rw [hae,Addr.add_lit,Addr.add_lit]
   rw [←hq];exact (hlf j (by omega)).2 q u hu
  ·obtain ⟨i,ug,rfl⟩:=List.mem_map.1 hx;exact (hlf i (by have:=List.mem_range.1 ug;omega)).1
theorem zXL {fuel:Nat} {cs:List Value} {x:DataW H×List MemPlace} (h:DataW.trod enc Tryz.prog W 0 (fun _=>true) true fuel 32 cs=some x) (hw:∀k∈x.1.weights Tryz.prog 32,k≤reachBytes) :
  ∃e:Oe,OpIn W e.o e.A e.n e.c∧cs=zSQ e:=by
 obtain ⟨m,hl,hk⟩:=zKR Tryz.underlying32 h;rw [zNg] at hl;obtain ⟨c0,c1,c2,c3,c4,c5,c6,c7,rfl⟩:=zXI hl;obtain ⟨y0,h0,_⟩:=hk 0 _ rfl;obtain ⟨y1,h1,_⟩:=hk 1 _ rfl;obtain ⟨y2,h2,_⟩:=hk 2 _ rfl;obtain ⟨y3,h3,w3⟩:=hk 3 _ rfl;obtain ⟨y4,h4,_⟩:=hk 4 _ rfl;simp only [List.getElem_toArray,List.getElem_cons_zero,List.getElem_cons_succ,zDM,zDX,zFr,zOn,zMh] at h0 h1 h2 h3 h4;obtain ⟨kk,hkk,e0⟩:=zVo h0;obtain ⟨f,hf,e1⟩:=zGk h1;obtain ⟨s,hs,e2⟩:=zWJ h2;obtain ⟨A,n,c,P,e3,hP,hok,hc,_⟩:=zQK (ok:=fun x:Sp=>SgOk x.s) dp Tryz.underlying30 zIs (by decide) (by rw [show Tryz.prog.bytesOf 86=40 by kernel_rfl];decide) (fun _=>rfl) (fun n cs z hz _=>zXK hz) (fun k hk=>hw k (w3 k hk)) h3;obtain ⟨r,e4⟩:=zJC h4;simp only [List.drop_zero,List.drop_succ_cons,List.take_succ_cons,List.take_zero,List.cons.injEq,and_true,zWZ] at e0 e1 e2 e3 e4;obtain ⟨rfl,rfl,rfl,rfl⟩:=e2;subst e0;subst e1;subst e3;subst e4
 exact ⟨⟨⟨kk,f,s,P,r⟩,A,n,c⟩,⟨⟨hkk,hf,hs⟩,⟨hP,hok⟩,hc⟩,rfl⟩
theorem zKS {ts:List TypeId} {ds:List (DataW H)} (h:(DataW.weightsEach Tryz.prog ts ds).all (·≤reachBytes)=true) {j:Nat} {t:TypeId} {d:DataW H} (ht:ts[j]? = some t) (hd:ds[j]? = some d) :
  ∀x∈d.weights Tryz.prog t,x≤reachBytes:=fun x hx=>by
 have:=List.all_eq_true.1 h x (DataW.weights_mem_each ht hd x hx);simpa using this
theorem zSL {v:Value} {d:DataW H} {ps:List MemPlace} (h:DataW.Trod enc Tryz.prog W 0 (fun _=>true) true 24 v d ps) {base:Nat} (hv:Value.okWide Tryz.prog W .any base 24 v)
  (hw:∀x∈d.weights Tryz.prog 24,x≤reachBytes):∃A n c L re lo,v=frV A n c re lo∧Fgs W A n L∧n≤c∧I64 re∧I64 lo:=by
 obtain ⟨cs,rfl,hsz⟩:=okWide_struct Tryz.underlying24 hv;obtain ⟨c0,c1,c2,rfl⟩:=array3 (hsz.trans (show Tryz.prog.cellsOf 24=3 by kernel_rfl));obtain ⟨fuel,hf⟩:=h;obtain ⟨m,_,hk⟩:=zKR Tryz.underlying24 hf;obtain ⟨y0,h0,w0⟩:=hk 0 _ rfl;obtain ⟨y1,h1,_⟩:=hk 1 _ rfl;obtain ⟨y2,h2,_⟩:=hk 2 _ rfl;simp only [List.getElem_toArray,List.getElem_cons_zero,List.getElem_cons_succ,zFr,show Tryz.prog.cellsOf 22=1 by kernel_rfl] at h0 h1 h2;obtain ⟨A,n,c,L,e0,hL,hok,hc,_⟩:=zQK (ok:=FgOk) df Tryz.underlying22 zGl (by decide) (by rw [show Tryz.prog.bytesOf 90=24 by kernel_rfl];decide) (fun _=>rfl) (fun n cs z hz _=>zXJ hz) (fun k hk=>hw k (w0 k hk)) h0;obtain ⟨re,hre,e1⟩:=zGk h1;obtain ⟨lo,hlo,e2⟩:=zGk h2;simp only [Value.cells,List.drop_zero,List.drop_succ_cons,List.take_succ_cons,List.take_zero,List.cons.injEq,and_true] at e0 e1 e2;subst e0;subst e1;subst e2
 exact ⟨A,n,c,L,re,lo,rfl,⟨hL,hok⟩,hc,hre,hlo⟩
theorem zWK {v:Value} {d:DataW H} {ps:List MemPlace} (h:DataW.Trod enc Tryz.prog W 0 (fun _=>true) true 38 v d ps) {base:Nat} (hv:Value.okWide Tryz.prog W .any base 38 v)
  (hw:∀x∈d.weights Tryz.prog 38,x≤reachBytes):∃A n c Es,v=.slice A n c∧Oprs W A n Es∧n≤c:=by
 obtain ⟨a0,len,cap,rfl⟩:=okWide_slice Tryz.underlying38 hv;obtain ⟨fuel,hf⟩:=h;obtain ⟨A,n,c,L,e0,hL,hok,hc,_⟩:=zQK (ok:=fun e:Oe=>OpIn W e.o e.A e.n e.c) do_ Tryz.underlying38 zNg (by decide) (by rw [show Tryz.prog.bytesOf 32=80 by kernel_rfl];decide) (fun _=>rfl) (fun n cs z hz hk=>zXL hz (fun k h=>hw k (hk k h))) hw hf;simp only [Value.cells,List.cons.injEq,and_true] at e0;exact ⟨A,n,c,L,e0,⟨hL,hok⟩,hc⟩
end
end Go.Proofs.YtlmdfmnbcndhoaaGreatDoor
