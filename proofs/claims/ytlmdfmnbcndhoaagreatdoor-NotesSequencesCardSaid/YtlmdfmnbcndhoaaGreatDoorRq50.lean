/-
  Lemmas, part 50. Conditions: each theorem's own.
-/
import Derived.Test.YtlmdfmnbcndhoaaGreatDoorRq49
import Derived.Test.YtlmdfmnbcndhoaaGreatDoorRq07
import Derived.Test.YtlmdfmnbcndhoaaGreatDoorRq08
import Derived.Test.YtlmdfmnbcndhoaaGreatDoorRq03
import Derived.Test.YtlmdfmnbcndhoaaGreatDoorRq04
import Derived.Lib.LaidTab
import Derived.HandedShaped
import Derived.Lay
import Derived.Stop.LaidErr
import Derived.Shelf.Vars
import Derived.Lib.SmallJoins
import Derived.Deep.Slices
import Derived.Deep.Fields
import Derived.ChangeSame
import Derived.ChangeMaps5
open Option renaming none→U,some→Z
open Bool renaming true→Q
open Go.Value renaming bool→G,int→D,slice→H
open Go.IntKind renaming i64→J
namespace Go.Proofs.YtlmdfmnbcndhoaaGreatDoor
open Go.ChangeShapes Go.WideShapes Go.ChangeAt Go.WideElems Go.RowKit Go.Deep Go.Joins
set_option maxRecDepth 100000
theorem own:ownKnob Tryz.prog.godebug=U:=by kernel_rfl
theorem zTi:laidOutB Tryz.prog=Q:=by kernel_rfl
theorem zTj:reachBytes=140737488351232:=by kernel_rfl
theorem zEB {ZW:Type} {enc:TypeId×Value→ZW} {a:Assume} {C:Checked} {os:Os} {f:FuncId} {fn:Func} {s:ChangeSpec} {conds:List PathCond} {apart fresh handsOn again:Bool} {X:World→Array Value→Prop}
  (hX:∀(w w':World) (args:Array Value),w.heap=w'.heap→X w args→X w' args)
  (own:ownKnob C.prog.godebug=U) (started:os.Started) (noInit:C.prog.inits.idxOf? f=U) (hfn:C.prog.funcs[f]? = Z fn)
  (witness:∃(w:World) (tape:Tape) (i:Input),w.os=os∧(w.forCall tape i).Shaped C.prog∧i.vars=[]∧Input.okWide C.prog (w.forCall tape i) .any w.heap.size f i ∧
   ((s.pre enc C.prog fn conds apart (w.forCall tape i).memory i.args∧X (w.forCall tape i).memory i.args)∧sizedMet enc C.prog fn (OpenSpec.ofChange s) apart (w.forCall tape i).memory i.args)∧a.holds C.prog (lone (Frame.enter C.prog f i.args .normal) [] (w.forCall tape i)))
  (contract:∀(ZR:World) (base:Nat) (args:Array Value) (ds gs:List (DataW ZW)) (before:List MemPlace),
   (∀(j:Nat) t v,fn.params[j]? = Z t→args[j]? = Z v→Value.okWide C.prog ZR .any base t v) →
   DataW.Whole enc C.prog fn.params.toList s.vars apart ZR args.toList ds gs before →
   conds.all (PathCond.test C.prog ⟨fn.params.toList,ds,s.plain.varTypes C.prog,gs⟩)=Q →
   (DataW.weightsEach C.prog (fn.params.toList++s.plain.varTypes C.prog) (ds++gs)).all (·≤reachBytes)=Q→X ZR args→ZR.ShapedOpen C.prog →
   a.holds C.prog (lone (Frame.enter C.prog f args .normal) [] ZR) →
   Calls C.prog f args ZR fun e W'=>∃v,e=.returned v∧s.post enc C.prog fn apart fresh handsOn again ZR args v W') :
  ReturnsInHanded a C os f .any (fun w args=>(s.pre enc C.prog fn conds apart w args∧X w args)∧sizedMet enc C.prog fn (OpenSpec.ofChange s) apart w args) (s.post enc C.prog fn apart fresh handsOn again):=by
 refine returnsInHanded_of_calls own started noInit witness ?_;intro w tape i _ hsh _ hok hpre hholds;obtain ⟨_,_,_,fn',Ae,_,_,_,_,hval⟩:=hok;have e:fn'=fn:=Option.some.inj (Ae.symm.trans hfn);subst e;obtain ⟨⟨⟨ds,gs,before,hw,hc⟩,hx⟩,hz⟩:=hpre;have zr:=DataW.Whole.of_heap (w':=w.forCall tape i) (by rfl) hw;refine (contract (w.forCall tape i) w.heap.size i.args ds gs before hval zr hc (hz.weights hw) (hX _ _ _ (by rfl) hx) hsh hholds).mono fun e W' ⟨v,he,hp⟩=>?_
 subst he;exact ChangeSpec.post_blind hp
def zBs:List (String×DataW Unit):=Rows.notesBackRow.laid
theorem zEk:∀w,laidMetH Tryz.prog zBs w=laidMet Tryz.prog zBs w:=fun w=>MakeChecks.laidMetH_plain _ _ _ (by kernel_rfl)
theorem zRn (os:Os) (args:Array Value):laidMetH Tryz.prog zBs ((World.laidAll Tryz.prog os zBs).forCall (fun _ _=>0) ⟨#[],args,[]⟩).memory:=by
 rw [zEk];exact laidMet_laidAll _ (by kernel_rfl) (by kernel_rfl)
theorem zVG (os:Os):(World.laidAll Tryz.prog os zBs).Shaped Tryz.prog:=World.shaped_of_ZipB (by kernel_rfl) (by kernel_rfl)
theorem zRo:Tryz.prog.cellsOf 235=1:=by kernel_rfl
theorem zVH {ZR:World} (h0:laidMetH Tryz.prog zBs ZR) (hs:ZR.ShapedOpen Tryz.prog):Tabs ZR:=by
 have h:laidMet Tryz.prog zBs ZR:=by rw [←zEk];exact h0
 have h3:=h.tail.tail;refine ⟨?_,Go.Proofs.cell_of_shapedOpen_int (zero:=#[D J 0]) (t:=3) hs (of_decide_eq_true (by kernel_rfl)) (by kernel_rfl) rfl (by kernel_rfl) (by kernel_rfl) Tryz.underlying3⟩;exact Lib.tabIs_of_head (g:=1) (k:=.u64) (zs:=Lib.pow10Tab) (rest:=_) (by kernel_rfl) (by kernel_rfl) Tryz.underlying242 Tryz.underlying235 zRo (by kernel_rfl) h3
theorem zNH:Tryz.prog.readableRec 24=Q∧24 < Tryz.prog.types.size:=⟨by kernel_rfl,of_decide_eq_true (by kernel_rfl)⟩
theorem zRp:Tryz.prog.readableRec 55=Q∧55 < Tryz.prog.types.size:=⟨by kernel_rfl,of_decide_eq_true (by kernel_rfl)⟩
section
variable {ZW:Type} {enc:TypeId×Value→ZW} {ZR:World} {base:Nat} {spare:Nat→Bool} {held:Bool}
theorem zNI {t:TypeId} {fs:Array Field} {fuel:Nat} {cs:List Value} {x:DataW ZW×List MemPlace} (ht:Tryz.prog.underlying t=Z (.struct fs)) (h:DataW.trod enc Tryz.prog ZR base spare held fuel t cs=Z x) :
  ∃m,cs.length=Tryz.prog.cellsOf t∧∀(j:Nat) (f:Field),fs[j]? = Z f→∃y,DataW.trod enc Tryz.prog ZR base spare held m f.type ((cs.drop f.offset).take (Tryz.prog.cellsOf f.type))=Z y∧∀n∈y.1.weights Tryz.prog f.type,n∈x.1.weights Tryz.prog t:=by
 obtain ⟨xs,m,_,rfl,hl,hxl,hf⟩:=DataW.trod_struct ht h;refine ⟨m,hl,fun j f hj=>?_⟩;have h1:=hf j f hj;have hjl:j < xs.length:=by rw [hxl];exact (Array.getElem?_eq_some_iff.1 hj).1
 rw [List.getElem?_eq_getElem hjl] at h1;refine ⟨xs[j],h1,?_⟩;intro n hn;unfold DataW.weights;rw [ht];exact DataW.weights_mem_each (j:=j) (t:=f.type) (d:=(xs[j]).1) (by rw [List.getElem?_map,Array.getElem?_toList,hj];rfl) (by rw [List.getElem?_map,List.getElem?_eq_getElem hjl];rfl) n hn
theorem zFT {fuel:Nat} {cs:List Value} {x:DataW ZW×List MemPlace} (h:DataW.trod enc Tryz.prog ZR base spare held fuel 3 cs=Z x):∃k:Int,I64 k∧cs=[D J k]:=by
 obtain ⟨k,e,_,w⟩:=DataW.trod_int (k:=J) Tryz.underlying3 h;exact ⟨k,bounds_i64 w,e⟩
theorem zRq {fuel:Nat} {cs:List Value} {x:DataW ZW×List MemPlace} (h:DataW.trod enc Tryz.prog ZR base spare held fuel 4 cs=Z x):∃b:Bool,cs=[G b]:=by
 obtain ⟨b,e,_⟩:=DataW.trod_bool Tryz.underlying4 h;exact ⟨b,e⟩
theorem zYc {α:Type} {l:List α} (h:l.length=3):∃a b c,l=[a,b,c]:=by
 match l,h with
 | [a,b,c],_=>exact ⟨a,b,c,rfl⟩
theorem zYd {α:Type} {l:List α} (h:l.length=6):∃a b c d e f,l=[a,b,c,d,e,f]:=by
 match l,h with
 | [a,b,c,d,e,f],_=>exact ⟨a,b,c,d,e,f,rfl⟩
theorem zGO:Tryz.prog.cellsOf 90=3:=by kernel_rfl
theorem zGP:Tryz.prog.cellsOf 76=6:=by kernel_rfl
theorem zFU:Tryz.prog.cellsOf 3=1:=by kernel_rfl
theorem zIW:Tryz.prog.cellsOf 4=1:=by kernel_rfl
theorem zMD:Tryz.prog.cellsOf 74=1:=by kernel_rfl
theorem zYe {fuel:Nat} {cs:List Value} {x:DataW ZW×List MemPlace} (h:DataW.trod enc Tryz.prog ZR base spare held fuel 90 cs=Z x):∃f:Fg,FgOk f∧cs=zXu f:=by
 obtain ⟨m,hl,hk⟩:=zNI Tryz.underlying90 h;rw [zGO] at hl;obtain ⟨c0,c1,c2,rfl⟩:=zYc hl;obtain ⟨y0,h0,_⟩:=hk 0 _ rfl;obtain ⟨y1,h1,_⟩:=hk 1 _ rfl;obtain ⟨y2,h2,_⟩:=hk 2 _ rfl;simp only [List.getElem_toArray,List.getElem_cons_zero,List.getElem_cons_succ,zFU,zIW] at h0 h1 h2;obtain ⟨p,hp,e0⟩:=zFT h0;obtain ⟨r,e1⟩:=zRq h1;obtain ⟨d,hd,e2⟩:=zFT h2;simp only [List.drop_zero,List.drop_succ_cons,List.take_succ_cons,List.take_zero,List.cons.injEq,and_true] at e0 e1 e2;subst e0;subst e1;subst e2
 exact ⟨⟨p,r,d⟩,⟨hp,hd⟩,rfl⟩
theorem zTM {α:Type} {t e:TypeId} {sz:Nat} {en:α→List Value} {ok:α→Prop} {fuel:Nat} {v:List Value} {y:DataW ZW×List MemPlace} (d0:α) (ht:Tryz.prog.underlying t=Z (.slice e)) (hsz:Tryz.prog.cellsOf e=sz) (hpos:0 < sz)
  (hby:8≤Tryz.prog.bytesOf e) (hlen:∀x:α,(en x).length=sz)
  (hdec:∀(n:Nat) (cs:List Value) (z:DataW ZW×List MemPlace),DataW.trod enc Tryz.prog ZR 0 (fun _=>Q) Q n e cs=Z z→(∀k∈z.1.weights Tryz.prog e,k∈y.1.weights Tryz.prog t)→∃x:α,ok x∧cs=en x)
  (hw:∀k∈y.1.weights Tryz.prog t,k≤reachBytes)
  (h:DataW.trod enc Tryz.prog ZR 0 (fun _=>Q) Q fuel t v=Z y):∃A n c L,v=[H A n c]∧Els sz en ZR A n L∧(∀x∈L,ok x)∧n≤c∧n*Tryz.prog.bytesOf e≤140737488351232:=by
 rcases open_slice ht h with ⟨hcs,_⟩ | ⟨a,len,cap,mm,nn,ZZ,Pl,hcs,_,hl,_,hmm,hx,hi⟩
 ·exact ⟨U,0,0,[],hcs,Els.nil _ _,by simp,Nat.le_refl _,by omega⟩
 ·simp only [if_true] at hmm;subst hmm;rw [hsz] at hi;have hwts:∀i,i < mm→∀k∈(ZZ i).weights Tryz.prog e,k∈y.1.weights Tryz.prog t:=by
   intro i him k hk;rw [hx];unfold DataW.weights;rw [ht];simp only;refine List.mem_cons_of_mem _ ?_;have hm:∀(l:List (DataW ZW)) (d:DataW ZW),d∈l→∀k∈d.weights Tryz.prog e,k∈DataW.weightsAll Tryz.prog e l:=by
    intro l
    induction l with
    | nil=>intro d hd;simp at hd
    | cons a l ih =>
     intro d hd k hk;unfold DataW.weightsAll;rcases List.mem_cons.1 hd with rfl | hd
     ·exact List.mem_append_left _ hk
     ·exact List.mem_append_right _ (ih d hd k hk)
   rcases Nat.lt_or_ge i len with h | h
   ·exact List.mem_append_left _ (hm _ (ZZ i) (List.mem_map.2 ⟨i,List.mem_range.2 h,rfl⟩) k hk)
   ·exact List.mem_append_right _ (hm _ (ZZ i) (List.mem_map.2 ⟨i-len,List.mem_range.2 (by omega),by rw [show len+(i-len)=i by omega]⟩) k hk)
  have Dr:(len+(mm-len))*Tryz.prog.bytesOf e≤reachBytes:=by
   refine hw _ ?_;rw [hx];unfold DataW.weights;rw [ht];simp only [List.length_map,List.length_range,List.mem_cons,true_or]
  rw [zTj] at Dr;have hbound:len≤17592186043904:=by
   have:len*8≤(len+(mm-len))*Tryz.prog.bytesOf e:=Nat.mul_le_mul (by omega) hby;omega
  have hrec:∀i,i < mm→∃x:α,ok x∧∀q u,(en x)[q]? = Z u→ZR.cell? ((a.add (i*sz)).add q)=Z u:=by
   intro i him;obtain ⟨cs',hc,hd⟩:=hi i him;obtain ⟨x,hok,he⟩:=hdec _ _ _ hd (hwts i him);obtain ⟨_,hcl,hcell⟩:=World.cells?_some hc;refine ⟨x,hok,fun q u hq=>?_⟩;have hql:=(List.getElem?_eq_some_iff.1 hq).1;rw [hcell q (by rw [hlen] at hql;exact hql),he];exact hq
  let lf:Nat→α:=fun i=>if h:i < mm then Classical.choose (hrec i h) else d0
  have hlf:∀i,i < mm→ok (lf i)∧∀q u,(en (lf i))[q]? = Z u→ZR.cell? ((a.add (i*sz)).add q)=Z u:=by
   intro i him;have:lf i=Classical.choose (hrec i him):=dif_pos him;rw [this];exact Classical.choose_spec (hrec i him)
  clear_value lf
  refine ⟨Z a,len,mm,(List.range len).map lf,hcs,⟨by simp,hbound,fun hn=>?_⟩,fun x hx=>?_,hl,Nat.le_trans (Nat.mul_le_mul_right _ (by omega)) Dr⟩
  ·have yf:=(hlf 0 (by omega)).2 0 ((en (lf 0))[0]'(by rw [hlen];omega)) (List.getElem?_eq_getElem _);have ea:(a.add (0*sz)).add 0=a:=by simp [Addr.add]
   rw [ea] at yf;have hsp:=World.cell?_spot yf;have hae:a=⟨a.block,a.off,U⟩:=by cases a;simp at hsp;subst hsp;rfl
   refine ⟨a.block,a.off,by rw [←hae],World.block_lt_of_cell? _ _ yf,fun j x hx q u hu=>?_⟩;rw [List.getElem?_map] at hx;obtain ⟨i,rQ,rfl⟩:=Option.map_eq_some_iff.1 hx;have hj:j < len:=by
    have:=(List.getElem?_eq_some_iff.1 rQ).1;simpa using this
   rw [List.getElem?_range hj] at rQ;injection rQ with rQ
   subst rQ;have hq:(a.add (j*sz)).add q=⟨a.block,a.off+j*sz+q,U⟩:=by rw [hae,Addr.add_lit,Addr.add_lit]
   rw [←hq];exact (hlf j (by omega)).2 q u hu
  ·obtain ⟨i,rQ,rfl⟩:=List.mem_map.1 hx;exact (hlf i (by have:=List.mem_range.1 rQ;omega)).1
theorem zYf {fuel:Nat} {cs:List Value} {x:DataW ZW×List MemPlace} (h:DataW.trod enc Tryz.prog ZR base spare held fuel 76 cs=Z x):∃l:Lt,LtOk l∧cs=[D J l.kind,D J l.gate,D J l.rank,D J l.id,D J l.sign,G l.over]:=by
 obtain ⟨m,hl,hk⟩:=zNI Tryz.underlying76 h;rw [zGP] at hl;obtain ⟨c0,c1,c2,c3,c4,c5,rfl⟩:=zYd hl;obtain ⟨y0,h0,_⟩:=hk 0 _ rfl;obtain ⟨y1,h1,_⟩:=hk 1 _ rfl;obtain ⟨y2,h2,_⟩:=hk 2 _ rfl;obtain ⟨y3,h3,_⟩:=hk 3 _ rfl;obtain ⟨y4,h4,_⟩:=hk 4 _ rfl;obtain ⟨y5,h5,_⟩:=hk 5 _ rfl;simp only [List.getElem_toArray,List.getElem_cons_zero,List.getElem_cons_succ,zFU,zIW,zMD] at h0 h1 h2 h3 h4 h5;obtain ⟨k0,e0,_,w0⟩:=DataW.trod_int (k:=J) Tryz.underlying74 h0;obtain ⟨k1,w1,e1⟩:=zFT h1;obtain ⟨k2,w2,e2⟩:=zFT h2;obtain ⟨k3,w3,e3⟩:=zFT h3;obtain ⟨k4,w4,e4⟩:=zFT h4;obtain ⟨k5,e5⟩:=zRq h5;simp only [List.drop_zero,List.drop_succ_cons,List.take_succ_cons,List.take_zero,List.cons.injEq,and_true] at e0 e1 e2 e3 e4 e5;subst e0;subst e1;subst e2;subst e3;subst e4;subst e5
 exact ⟨⟨k0,k1,k2,k3,k4,k5⟩,⟨bounds_i64 w0,w1,w2,w3,w4⟩,rfl⟩
theorem zLm {ts:List TypeId} {ds:List (DataW ZW)} (h:(DataW.weightsEach Tryz.prog ts ds).all (·≤reachBytes)=Q) {j:Nat} {t:TypeId} {d:DataW ZW} (ht:ts[j]? = Z t) (hd:ds[j]? = Z d) :
  ∀x∈d.weights Tryz.prog t,x≤reachBytes:=fun x hx=>by
 have:=List.all_eq_true.1 h x (DataW.weights_mem_each ht hd x hx);simpa using this
theorem zTk {v:Value} {d:DataW ZW} {ps:List MemPlace} (h:DataW.Trod enc Tryz.prog ZR 0 (fun _=>Q) Q 24 v d ps) {base:Nat} (hv:Value.okWide Tryz.prog ZR .any base 24 v)
  (hw:∀x∈d.weights Tryz.prog 24,x≤reachBytes):∃A n c L re lo,v=frV A n c re lo∧Fgs ZR A n L∧n≤c∧I64 re∧I64 lo:=by
 obtain ⟨cs,rfl,hsz⟩:=okWide_struct Tryz.underlying24 hv;obtain ⟨c0,c1,c2,rfl⟩:=array3 (hsz.trans (show Tryz.prog.cellsOf 24=3 by kernel_rfl));obtain ⟨fuel,hf⟩:=h;obtain ⟨m,_,hk⟩:=zNI Tryz.underlying24 hf;obtain ⟨y0,h0,w0⟩:=hk 0 _ rfl;obtain ⟨y1,h1,_⟩:=hk 1 _ rfl;obtain ⟨y2,h2,_⟩:=hk 2 _ rfl;simp only [List.getElem_toArray,List.getElem_cons_zero,List.getElem_cons_succ,zFU,show Tryz.prog.cellsOf 22=1 by kernel_rfl] at h0 h1 h2;obtain ⟨A,n,c,L,e0,hL,hok,hc,_⟩:=zTM (ok:=FgOk) df Tryz.underlying22 zGO (by decide) (by rw [show Tryz.prog.bytesOf 90=24 by kernel_rfl];decide) (fun _=>rfl) (fun n cs z hz _=>zYe hz) (fun k hk=>hw k (w0 k hk)) h0;obtain ⟨re,hre,e1⟩:=zFT h1;obtain ⟨lo,hlo,e2⟩:=zFT h2;simp only [Value.cells,List.drop_zero,List.drop_succ_cons,List.take_succ_cons,List.take_zero,List.cons.injEq,and_true] at e0 e1 e2;subst e0;subst e1;subst e2
 exact ⟨A,n,c,L,re,lo,rfl,⟨hL,hok⟩,hc,hre,hlo⟩
theorem zVI {v:Value} {d:DataW ZW} {ps:List MemPlace} (h:DataW.Trod enc Tryz.prog ZR 0 (fun _=>Q) Q 55 v d ps) {base:Nat} (hv:Value.okWide Tryz.prog ZR .any base 55 v)
  (hw:∀x∈d.weights Tryz.prog 55,x≤reachBytes):∃K A n c L,v=.agg #[D J K,H A n c]∧I64 K∧Lets ZR A n L∧n≤c:=by
 obtain ⟨cs,rfl,hsz⟩:=okWide_struct Tryz.underlying55 hv;obtain ⟨c0,c1,rfl⟩:=array2 (hsz.trans (show Tryz.prog.cellsOf 55=2 by kernel_rfl));obtain ⟨fuel,hf⟩:=h;obtain ⟨m,_,hk⟩:=zNI Tryz.underlying55 hf;obtain ⟨y0,h0,_⟩:=hk 0 _ rfl;obtain ⟨y1,h1,w1⟩:=hk 1 _ rfl;simp only [List.getElem_toArray,List.getElem_cons_zero,List.getElem_cons_succ,zFU,show Tryz.prog.cellsOf 53=1 by kernel_rfl] at h0 h1;obtain ⟨K,hK,e0⟩:=zFT h0;obtain ⟨A,n,c,L,e1,hL,hok,hc,hbn⟩:=zTM (en:=fun l:Lt=>[D J l.kind,D J l.gate,D J l.rank,D J l.id,D J l.sign,G l.over]) (ok:=LtOk) dl Tryz.underlying53 zGP (by decide) (by rw [show Tryz.prog.bytesOf 76=48 by kernel_rfl];decide) (fun _=>rfl) (fun n cs z hz _=>zYf hz) (fun k hk=>hw k (w1 k hk)) h1;simp only [Value.cells,List.drop_zero,List.drop_succ_cons,List.take_succ_cons,List.take_zero,List.cons.injEq,and_true] at e0 e1;subst e0;subst e1
 refine ⟨K,A,n,c,L,rfl,hK,⟨hL.len,by rw [show Tryz.prog.bytesOf 76=48 by kernel_rfl] at hbn;omega,hok,fun hn=>?_⟩,hc⟩;obtain ⟨g,o,e,hg,hcell⟩:=hL.2.2 hn;exact ⟨g,o,e,hg,fun j x hx=>⟨hcell j x hx 0 _ rfl,hcell j x hx 1 _ rfl,hcell j x hx 2 _ rfl,hcell j x hx 3 _ rfl,hcell j x hx 4 _ rfl,hcell j x hx 5 _ rfl⟩⟩
end
end Go.Proofs.YtlmdfmnbcndhoaaGreatDoor
