/-
  Lemmas, part 45. Conditions: each theorem's own.
-/
import Derived.Test.YtlmdfmnbcndhoaaGreatDoorRi41
import Derived.Test.YtlmdfmnbcndhoaaGreatDoorRi44
import Derived.Test.YtlmdfmnbcndhoaaGreatDoorRows
import Derived.Test.YtlmdfmnbcndhoaaGreatDoorTie
import Derived.Test.YtlmdfmnbcndhoaaGreatDoorCards
import Derived.Test.YtlmdfmnbcndhoaaGreatDoorRi01
import Derived.ProofKit
import Derived.LaidMore
import Derived.OpenShut
import Derived.Stop.Joined
import Derived.SizedLaws
import Derived.Test.YtlmdfmnbcndhoaaGreatDoorRi04
import Derived.Test.YtlmdfmnbcndhoaaGreatDoorRi05
import Derived.Lib.LaidTab
import Derived.HandedShaped
import Derived.Lay
import Derived.Stop.LaidErr
import Derived.Shelf.Vars
import Derived.Lib.SmallJoins
import Derived.Deep.Slices
import Derived.Deep.Fields
import Derived.ChangeSame
import Derived.ChangeMaps5
namespace Go.Proofs.YtlmdfmnbcndhoaaGreatDoor
open Go.RowKit
theorem zJj {A:Option Addr} {n c:Nat} {L:List Fg} {re lo:Int} {S:List UInt8} {O:List Og} {E:Int} (h1:rsE L re lo S=E) (h2:rsO L re lo S=O) (w:World) (hA:Fgs w A n L) (hv:frB L re lo=true) :
  Calls Tryz.prog 32 #[frV A n c re lo,.string (bA S)] w (zDj w O E):=by
 subst h1;subst h2;exact zHH A n c L re lo S w hA hv
set_option maxRecDepth 100000 in
set_option maxHeartbeats 12800000 in
theorem zHI (A:Option Addr) (n c:Nat) (L:List Fg) (re lo:Int) (S:List UInt8) (w:World) (hA:Fgs w A n L) (hc:n≤c) (ht:Tabs w) :
  Calls Tryz.prog 6 #[frV A n c re lo,.string (bA S)] w fun e w'=>e=.returned (.bool true)∧Below w.heap.size w w':=by
 have HA:=qH hA;have HT:=qH ht;have HB:=qH (Below.refl w.heap.size w);have HC:=qH hc;have hs:=zCo S;obtain ⟨nS,hnS⟩:∃k,S.length=k:=⟨_,rfl⟩
 rw [hnS] at hs;have HN:=qH hnS;clear hA ht hc hnS;by_cases h60:n≤60
 ·by_cases h9:nS≤9000
  ·skip;have HS:=qH (show decide (n≤60)=true by simpa using h60);have i0:¬(9000:Int) < (nS:Int):=by omega
   obtain ⟨E,hE⟩:∃E,rsE L re lo S=E:=⟨_,rfl⟩
   obtain ⟨O,ho⟩:∃o,rsO L re lo S=o:=⟨_,rfl⟩
   have HE:=qH hE;have HO:=qH ho;obtain ⟨v,hv⟩:∃v,frB L re lo=v:=⟨_,rfl⟩
   have HV:=qH hv;clear h60 h9 hE ho hv;go_enter Tryz.func6,Tryz.ntmps6;have hba:=(Below.refl w.heap.size w).alloc (Nat.le_refl _) (.cells #[.slice A n c,.int .i64 re,.int .i64 lo] 24);replace HA:=qH (HA.out.below hba);replace HT:=qH (HT.out.below hba);replace HB:=qH (zAa HB.out hba HB.out.size);have kf:=Blk.new w 24 #[.slice A n c,.int .i64 re,.int .i64 lo];clear hba;go_upto_region 1 with fail
   generalize w.alloc (.cells #[.slice A n c,.int .i64 re,.int .i64 lo] 24)=X at HA HT HB kf ⊢;have c0:X.cell? ⟨w.heap.size,0,none⟩=some (.slice A n c):=(kf.cell 0).trans rfl;have c1:X.cell? ⟨w.heap.size,1,none⟩=some (.int .i64 re):=(kf.cell 1).trans rfl;have c2:X.cell? ⟨w.heap.size,2,none⟩=some (.int .i64 lo):=(kf.cell 2).trans rfl;go_wp2_with fail
   refine (zHp HS.out A c re lo _).mono ?_;rintro e v5 ⟨rfl,hb⟩;clear c0 c1 c2;replace HA:=qH (HA.out.below hb);replace HT:=qH (HT.out.below hb);replace HB:=qH (zAa HB.out hb HB.out.size);replace kf:=kf.below hb kf.lt;clear hb;have c0:v5.cell? ⟨w.heap.size,0,none⟩=some (.slice A n c):=(kf.cell 0).trans rfl;have c1:v5.cell? ⟨w.heap.size,1,none⟩=some (.int .i64 re):=(kf.cell 1).trans rfl;have c2:v5.cell? ⟨w.heap.size,2,none⟩=some (.int .i64 lo):=(kf.cell 2).trans rfl;go_wp2_with fail
   refine (zKs HE.out HO.out _ HA.out HC.out HT.out).mono ?_;rintro e v6 ⟨B,m,d,Es,rfl,hEs,hml,hO,hb⟩;clear c0 c1 c2;replace HA:=qH (HA.out.below hb);replace HT:=qH (HT.out.below hb);replace HB:=qH (zAa HB.out hb HB.out.size);replace kf:=kf.below hb kf.lt;have HQ:=qH (hO.oprs hml);have HEO:=qH (show ogs Es=O from hEs);clear hb hO hml hEs;have c0:v6.cell? ⟨w.heap.size,0,none⟩=some (.slice A n c):=(kf.cell 0).trans rfl;have c1:v6.cell? ⟨w.heap.size,1,none⟩=some (.int .i64 re):=(kf.cell 1).trans rfl;have c2:v6.cell? ⟨w.heap.size,2,none⟩=some (.int .i64 lo):=(kf.cell 2).trans rfl;go_wp2_with fail
   refine (zPT HV.out _ HA.out).mono ?_;rintro e v7 ⟨rfl,hb⟩;clear c0 c1 c2;replace HA:=qH (HA.out.below hb);replace HT:=qH (HT.out.below hb);replace HB:=qH (zAa HB.out hb HB.out.size);replace kf:=kf.below hb kf.lt;replace HQ:=qH (HQ.out.below hb);clear hb
   cases v with
   | false =>
    obtain ⟨rfl,he⟩:E=2∧O=[]:=by
     have h1:=HE.out;have h2:=HO.out;have hb:zAA L re lo S=2:=by unfold zAA;rw [HV.out];rfl
     unfold rsE at h1;unfold rsO at h2;rw [if_neg (by omega)] at h1 h2;exact ⟨h1.symm.trans hb,h2.symm⟩
    obtain rfl:m=0:=by
     have h1:=HQ.out.len;have h2:=HEO.out;rw [he] at h2;rw [←h1];have h3:=congrArg List.length h2;unfold ogs at h3;rwa [List.length_map] at h3
    clear he HE HO HV;go_wp2_with fail
    refine (zFe _ HT.out).mono ?_;rintro e v8 ⟨rfl,hb⟩;replace HA:=qH (HA.out.below hb);replace HT:=qH (HT.out.below hb);replace HB:=qH (zAa HB.out hb HB.out.size);replace kf:=kf.below hb kf.lt;replace HQ:=qH (HQ.out.below hb);clear hb;go_wp2_with fail
    go_ret;exact ⟨rfl,HB.out⟩
   | true =>
    have HV2:=qH HV.out;have t1:(E==E)=true:=by simp
    have c0:v7.cell? ⟨w.heap.size,0,none⟩=some (.slice A n c):=(kf.cell 0).trans rfl;have c1:v7.cell? ⟨w.heap.size,1,none⟩=some (.int .i64 re):=(kf.cell 1).trans rfl;have c2:v7.cell? ⟨w.heap.size,2,none⟩=some (.int .i64 lo):=(kf.cell 2).trans rfl;go_wp2_with fail
    refine (zJj HE.out HO.out _ HA.out HV2.out).mono ?_;rintro e v9 ⟨B2,m2,dd2,Es2,rfl,hEs,hml,hO,hb⟩;clear c0 c1 c2;replace HA:=qH (HA.out.below hb);replace HT:=qH (HT.out.below hb);replace HB:=qH (zAa HB.out hb HB.out.size);replace kf:=kf.below hb kf.lt;replace HQ:=qH (HQ.out.below hb);have HQ2:=qH (hO.oprs hml);have HSM:=qH (zNG (show ogs Es=ogs Es2 from HEO.out.trans hEs.symm) B m d B2 m2 dd2 _ HQ.out HQ2.out);clear hb hO hml hEs;go_wp2_with fail
    refine HSM.out.mono ?_;rintro e v10 ⟨rfl,hb⟩;replace HA:=qH (HA.out.below hb);replace HT:=qH (HT.out.below hb);replace HB:=qH (zAa HB.out hb HB.out.size);replace kf:=kf.below hb kf.lt;replace HQ:=qH (HQ.out.below hb);clear hb HSM;go_wp2_with fail
    refine (zFe _ HT.out).mono ?_;rintro e v11 ⟨rfl,hb⟩;replace HA:=qH (HA.out.below hb);replace HT:=qH (HT.out.below hb);replace HB:=qH (zAa HB.out hb HB.out.size);replace kf:=kf.below hb kf.lt;replace HQ:=qH (HQ.out.below hb);clear hb;go_wp2_with fail
    go_ret;exact ⟨rfl,HB.out⟩
  ·skip;have HS:=qH (show decide (n≤60)=true by simpa using h60);have i0:(9000:Int) < (nS:Int):=by omega
   clear h60 h9;go_enter Tryz.func6,Tryz.ntmps6;have hba:=(Below.refl w.heap.size w).alloc (Nat.le_refl _) (.cells #[.slice A n c,.int .i64 re,.int .i64 lo] 24);replace HA:=qH (HA.out.below hba);replace HT:=qH (HT.out.below hba);replace HB:=qH (zAa HB.out hba HB.out.size);have kf:=Blk.new w 24 #[.slice A n c,.int .i64 re,.int .i64 lo];clear hba;go_upto_region 1 with fail
   generalize w.alloc (.cells #[.slice A n c,.int .i64 re,.int .i64 lo] 24)=X at HA HT HB kf ⊢;have c0:X.cell? ⟨w.heap.size,0,none⟩=some (.slice A n c):=(kf.cell 0).trans rfl;have c1:X.cell? ⟨w.heap.size,1,none⟩=some (.int .i64 re):=(kf.cell 1).trans rfl;have c2:X.cell? ⟨w.heap.size,2,none⟩=some (.int .i64 lo):=(kf.cell 2).trans rfl;go_wp2_with fail
   refine (zHp HS.out A c re lo _).mono ?_;rintro e v3 ⟨rfl,hb⟩;clear c0 c1 c2;replace HA:=qH (HA.out.below hb);replace HT:=qH (HT.out.below hb);replace HB:=qH (zAa HB.out hb HB.out.size);replace kf:=kf.below hb kf.lt;clear hb;go_wp2_with fail
   refine (zFe _ HT.out).mono ?_;rintro e v4 ⟨rfl,hb⟩;replace HA:=qH (HA.out.below hb);replace HT:=qH (HT.out.below hb);replace HB:=qH (zAa HB.out hb HB.out.size);replace kf:=kf.below hb kf.lt;clear hb;go_wp2_with fail
   go_ret;exact ⟨rfl,HB.out⟩
 ·skip;have HS:=qH (show decide (n≤60)=false by simpa using h60);clear h60;go_enter Tryz.func6,Tryz.ntmps6;have hba:=(Below.refl w.heap.size w).alloc (Nat.le_refl _) (.cells #[.slice A n c,.int .i64 re,.int .i64 lo] 24);replace HA:=qH (HA.out.below hba);replace HT:=qH (HT.out.below hba);replace HB:=qH (zAa HB.out hba HB.out.size);have kf:=Blk.new w 24 #[.slice A n c,.int .i64 re,.int .i64 lo];clear hba;go_upto_region 1 with fail
  generalize w.alloc (.cells #[.slice A n c,.int .i64 re,.int .i64 lo] 24)=X at HA HT HB kf ⊢;have c0:X.cell? ⟨w.heap.size,0,none⟩=some (.slice A n c):=(kf.cell 0).trans rfl;have c1:X.cell? ⟨w.heap.size,1,none⟩=some (.int .i64 re):=(kf.cell 1).trans rfl;have c2:X.cell? ⟨w.heap.size,2,none⟩=some (.int .i64 lo):=(kf.cell 2).trans rfl;go_wp2_with fail
  refine (zHp HS.out A c re lo _).mono ?_;rintro e v1 ⟨rfl,hb⟩;clear c0 c1 c2;replace HA:=qH (HA.out.below hb);replace HT:=qH (HT.out.below hb);replace HB:=qH (zAa HB.out hb HB.out.size);replace kf:=kf.below hb kf.lt;clear hb;go_wp2_with fail
  refine (zFe _ HT.out).mono ?_;rintro e v2 ⟨rfl,hb⟩;replace HA:=qH (HA.out.below hb);replace HT:=qH (HT.out.below hb);replace HB:=qH (zAa HB.out hb HB.out.size);replace kf:=kf.below hb kf.lt;clear hb;go_wp2_with fail
  go_ret;exact ⟨rfl,HB.out⟩
end Go.Proofs.YtlmdfmnbcndhoaaGreatDoor
namespace Go.Proofs.YtlmdfmnbcndhoaaGreatDoor
open Go.ChangeShapes Go.WideShapes Go.ChangeAt Go.WideElems Go.RowKit
section
variable {H:Type} {enc:TypeId×Value→H} {P:Program}
theorem zFj (hl:laidOutB P=true) {W W':World} {sp':Nat→Bool} (hb:Below W.heap.size W W'):∀(ts:List TypeId) (vs:List Value) (ds:List (DataW H)) (ps:List MemPlace),
  (∀t∈ts,P.readableRec t=true∧t < P.types.size)→DataW.TrodAll enc P W 0 (fun _=>true) true ts vs ds ps→(∀p∈ps,p.block < W.heap.size)→(∀p∈ps,sp' p.block=true)→DataW.TrodAll enc P W' 0 sp' true ts vs ds ps
 | [],[],[],_,_,h,_,_=>h
 | [],[],_ :: _,_,_,h,_,_=>h.elim
 | [],_ :: _,_,_,_,h,_,_=>h.elim
 | _ :: _,[],_,_,_,h,_,_=>h.elim
 | _ :: _,_ :: _,[],_,_,h,_,_=>h.elim
 | t :: ts,v :: vs,d :: ds,ps,ht,h,hlt,hsp=>by
  obtain ⟨p,q,h1,h2,rfl⟩:=h;refine ⟨p,q,?_,?_,rfl⟩
  ·exact Trod_stays hl (ht t (by simp)).1 (ht t (by simp)).2 h1 (fun x hx=>hb.same (hlt x (by simp [hx]))) (fun x hx=>hsp x (by simp [hx]))
  ·exact zFj hl hb ts vs ds q (fun t' h'=>ht t' (by simp [h'])) h2 (fun x hx=>hlt x (by simp [hx])) (fun x hx=>hsp x (by simp [hx]))
theorem zJk {f:Func} {s:ChangeSpec} {apart fresh handsOn again:Bool} {W W':World} {args:Array Value} {v:Value} {ds:List (DataW H)} {before:List MemPlace} (hl:laidOutB P=true) (hb:Below W.heap.size W W')
  (hvs:s.vars=[]) (hfn:(s.fn H ds).args=ds) (hfv:(s.fn H ds).vars=[])
  (hts:∀t∈f.params.toList,P.readableRec t=true∧t < P.types.size)
  (hW:DataW.Whole enc P f.params.toList s.vars apart W args.toList ds [] before)
  (hres:∀(b:Nat) (sp:Nat→Bool) (hd:Bool),DataW.TrodAll enc P W' b sp hd f.resultTypes.toList (v.resultList f.resultTypes.size) (s.fn H ds).results [])
  (hok:∀(j:Nat) (t:TypeId) (r:Value),f.resultTypes[j]? = some t→(v.resultList f.resultTypes.size)[j]? = some r→Value.okWide P W' .any 0 t r) :
  s.post enc P f apart fresh handsOn again W args v W':=by
 have hlt:=hW.lt;have hW2:=hW;obtain ⟨pa,pv,hA,hV,rfl,hz,hn⟩:=hW2;rw [hvs] at hV;obtain rfl:pv=[]:=hV;simp only [List.append_nil] at *;have args_:∀sp:Nat→Bool,(∀p∈pa,sp p.block=true)→DataW.TrodAll enc P W' 0 sp true f.params.toList args.toList (s.fn H (ds++[])).args pa:=fun sp hsp=>by
  rw [List.append_nil,hfn];exact zFj hl hb _ _ _ _ hts hA hlt hsp
 have vars_:∀sp:Nat→Bool,DataW.TrodVars enc P W' sp s.vars (s.fn H (ds++[])).vars []:=fun sp=>by
  rw [List.append_nil,hfv,hvs];rfl
 refine ⟨ds,[],pa,[],pa,[],hW,by rw [List.append_nil];exact hres _ _ _,args_ _ (fun p hp=>by simpa using hlt p hp),vars_ _,hb.frame _,fun _=>?_⟩;refine ⟨hok,_,_,([]++pa)++[],⟨[]++pa,[],trodAll_append (args_ _ (fun _ _=>rfl)) (hres _ _ _),vars_ _,rfl,?_,?_⟩,?_⟩
 ·intro b off hp;have hp':MemPlace.cell b off∈pa:=by simpa using hp
  rw [hb.frozen (p:=⟨b,off,none⟩) (hlt _ hp')];exact hz b off hp'
 ·intro ha;simpa using hn ha
 ·intro p hp _;simpa using hp
end
end Go.Proofs.YtlmdfmnbcndhoaaGreatDoor
namespace Go.Proofs.YtlmdfmnbcndhoaaGreatDoor
open Go.ChangeShapes Go.WideShapes Go.ChangeAt Go.WideElems Go.RowKit Go.Deep Go.Joins
set_option maxRecDepth 100000
theorem own:ownKnob Tryz.prog.godebug=none:=by kernel_rfl
theorem zSd:laidOutB Tryz.prog=true:=by kernel_rfl
theorem zSe:reachBytes=140737488351232:=by kernel_rfl
theorem zDX {H:Type} {enc:TypeId×Value→H} {a:Assume} {C:Checked} {os:Os} {f:FuncId} {fn:Func} {s:ChangeSpec} {conds:List PathCond} {apart fresh handsOn again:Bool} {X:World→Array Value→Prop}
  (hX:∀(w w':World) (args:Array Value),w.heap=w'.heap→X w args→X w' args)
  (own:ownKnob C.prog.godebug=none) (started:os.Started) (noInit:C.prog.inits.idxOf? f=none) (hfn:C.prog.funcs[f]? = some fn)
  (witness:∃(w:World) (tape:Tape) (i:Input),w.os=os∧(w.forCall tape i).Shaped C.prog∧i.vars=[]∧Input.okWide C.prog (w.forCall tape i) .any w.heap.size f i ∧
   ((s.pre enc C.prog fn conds apart (w.forCall tape i).memory i.args∧X (w.forCall tape i).memory i.args)∧sizedMet enc C.prog fn (OpenSpec.ofChange s) apart (w.forCall tape i).memory i.args)∧a.holds C.prog (lone (Frame.enter C.prog f i.args .normal) [] (w.forCall tape i)))
  (contract:∀(W:World) (base:Nat) (args:Array Value) (ds gs:List (DataW H)) (before:List MemPlace),
   (∀(j:Nat) t v,fn.params[j]? = some t→args[j]? = some v→Value.okWide C.prog W .any base t v) →
   DataW.Whole enc C.prog fn.params.toList s.vars apart W args.toList ds gs before →
   conds.all (PathCond.test C.prog ⟨fn.params.toList,ds,s.plain.varTypes C.prog,gs⟩)=true →
   (DataW.weightsEach C.prog (fn.params.toList++s.plain.varTypes C.prog) (ds++gs)).all (·≤reachBytes)=true→X W args→W.ShapedOpen C.prog →
   a.holds C.prog (lone (Frame.enter C.prog f args .normal) [] W) →
   Calls C.prog f args W fun e W'=>∃v,e=.returned v∧s.post enc C.prog fn apart fresh handsOn again W args v W') :
  ReturnsInHanded a C os f .any (fun w args=>(s.pre enc C.prog fn conds apart w args∧X w args)∧sizedMet enc C.prog fn (OpenSpec.ofChange s) apart w args) (s.post enc C.prog fn apart fresh handsOn again):=by
 refine returnsInHanded_of_calls own started noInit witness ?_;intro w tape i _ hsh _ hok hpre hholds;obtain ⟨_,_,_,fn',hfn',_,_,_,_,hval⟩:=hok;have e:fn'=fn:=Option.some.inj (hfn'.symm.trans hfn);subst e;obtain ⟨⟨⟨ds,gs,before,hw,hc⟩,hx⟩,hz⟩:=hpre;have hw':=DataW.Whole.of_heap (w':=w.forCall tape i) (by rfl) hw;refine (contract (w.forCall tape i) w.heap.size i.args ds gs before hval hw' hc (hz.weights hw) (hX _ _ _ (by rfl) hx) hsh hholds).mono fun e W' ⟨v,he,hp⟩=>?_
 subst he;exact ChangeSpec.post_blind hp
def zBf:List (String×DataW Unit):=Rows.notesBackRow.laid
theorem zDF:∀w,laidMetH Tryz.prog zBf w=laidMet Tryz.prog zBf w:=fun w=>MakeChecks.laidMetH_plain _ _ _ (by kernel_rfl)
theorem zQh (os:Os) (args:Array Value):laidMetH Tryz.prog zBf ((World.laidAll Tryz.prog os zBf).forCall (fun _ _=>0) ⟨#[],args,[]⟩).memory:=by
 rw [zDF];exact laidMet_laidAll _ (by kernel_rfl) (by kernel_rfl)
theorem zUz (os:Os):(World.laidAll Tryz.prog os zBf).Shaped Tryz.prog:=World.shaped_of_ZipB (by kernel_rfl) (by kernel_rfl)
theorem zQi:Tryz.prog.cellsOf 235=1:=by kernel_rfl
theorem zUA {W:World} (h0:laidMetH Tryz.prog zBf W) (hs:W.ShapedOpen Tryz.prog):Tabs W:=by
 have h:laidMet Tryz.prog zBf W:=by rw [←zDF];exact h0
 have h3:=h.tail.tail;refine ⟨?_,Go.Proofs.cell_of_shapedOpen_int (zero:=#[.int .i64 0]) (t:=3) hs (of_decide_eq_true (by kernel_rfl)) (by kernel_rfl) rfl (by kernel_rfl) (by kernel_rfl) Tryz.underlying3⟩;exact Lib.tabIs_of_head (g:=1) (k:=.u64) (zs:=Lib.pow10Tab) (rest:=_) (by kernel_rfl) (by kernel_rfl) Tryz.underlying242 Tryz.underlying235 zQi (by kernel_rfl) h3
theorem zMB:Tryz.prog.readableRec 24=true∧24 < Tryz.prog.types.size:=⟨by kernel_rfl,of_decide_eq_true (by kernel_rfl)⟩
theorem zSL:Tryz.prog.readableRec 9=true∧9 < Tryz.prog.types.size:=⟨by kernel_rfl,of_decide_eq_true (by kernel_rfl)⟩
section
variable {H:Type} {enc:TypeId×Value→H} {W:World} {base:Nat} {spare:Nat→Bool} {held:Bool}
theorem zSM {t:TypeId} {fs:Array Field} {fuel:Nat} {cs:List Value} {x:DataW H×List MemPlace} (ht:Tryz.prog.underlying t=some (.struct fs)) (h:DataW.trod enc Tryz.prog W base spare held fuel t cs=some x) :
  ∃m,cs.length=Tryz.prog.cellsOf t∧∀(j:Nat) (f:Field),fs[j]? = some f→∃y,DataW.trod enc Tryz.prog W base spare held m f.type ((cs.drop f.offset).take (Tryz.prog.cellsOf f.type))=some y∧∀n∈y.1.weights Tryz.prog f.type,n∈x.1.weights Tryz.prog t:=by
 obtain ⟨xs,m,_,rfl,hl,hxl,hf⟩:=DataW.trod_struct ht h;refine ⟨m,hl,fun j f hj=>?_⟩;have h1:=hf j f hj;have hjl:j < xs.length:=by rw [hxl];exact (Array.getElem?_eq_some_iff.1 hj).1
 rw [List.getElem?_eq_getElem hjl] at h1;refine ⟨xs[j],h1,?_⟩;intro n hn;unfold DataW.weights;rw [ht];exact DataW.weights_mem_each (j:=j) (t:=f.type) (d:=(xs[j]).1) (by rw [List.getElem?_map,Array.getElem?_toList,hj];rfl) (by rw [List.getElem?_map,List.getElem?_eq_getElem hjl];rfl) n hn
theorem zMC {fuel:Nat} {cs:List Value} {x:DataW H×List MemPlace} (h:DataW.trod enc Tryz.prog W base spare held fuel 3 cs=some x):∃k:Int,I64 k∧cs=[.int .i64 k]:=by
 obtain ⟨k,e,_,w⟩:=DataW.trod_int (k:=.i64) Tryz.underlying3 h;exact ⟨k,bounds_i64 w,e⟩
theorem zUB {fuel:Nat} {cs:List Value} {x:DataW H×List MemPlace} (h:DataW.trod enc Tryz.prog W base spare held fuel 4 cs=some x):∃b:Bool,cs=[.bool b]:=by
 obtain ⟨b,e,_⟩:=DataW.trod_bool Tryz.underlying4 h;exact ⟨b,e⟩
theorem zWM {α:Type} {l:List α} (h:l.length=3):∃a b c,l=[a,b,c]:=by
 match l,h with
 | [a,b,c],_=>exact ⟨a,b,c,rfl⟩
theorem zFW:Tryz.prog.cellsOf 90=3:=by kernel_rfl
theorem zKt:Tryz.prog.cellsOf 3=1:=by kernel_rfl
theorem zNI:Tryz.prog.cellsOf 4=1:=by kernel_rfl
theorem zWN {fuel:Nat} {cs:List Value} {x:DataW H×List MemPlace} (h:DataW.trod enc Tryz.prog W base spare held fuel 90 cs=some x):∃f:Fg,FgOk f∧cs=zVV f:=by
 obtain ⟨m,hl,hk⟩:=zSM Tryz.underlying90 h;rw [zFW] at hl;obtain ⟨c0,c1,c2,rfl⟩:=zWM hl;obtain ⟨y0,h0,_⟩:=hk 0 _ rfl;obtain ⟨y1,h1,_⟩:=hk 1 _ rfl;obtain ⟨y2,h2,_⟩:=hk 2 _ rfl;simp only [List.getElem_toArray,List.getElem_cons_zero,List.getElem_cons_succ,zKt,zNI] at h0 h1 h2;obtain ⟨p,hp,e0⟩:=zMC h0;obtain ⟨r,e1⟩:=zUB h1;obtain ⟨d,hd,e2⟩:=zMC h2;simp only [List.drop_zero,List.drop_succ_cons,List.take_succ_cons,List.take_zero,List.cons.injEq,and_true] at e0 e1 e2;subst e0;subst e1;subst e2
 exact ⟨⟨p,r,d⟩,⟨hp,hd⟩,rfl⟩
theorem zVU {α:Type} {t e:TypeId} {sz:Nat} {en:α→List Value} {ok:α→Prop} {fuel:Nat} {v:List Value} {y:DataW H×List MemPlace} (d0:α) (ht:Tryz.prog.underlying t=some (.slice e)) (hsz:Tryz.prog.cellsOf e=sz) (hpos:0 < sz)
  (hby:8≤Tryz.prog.bytesOf e) (hlen:∀x:α,(en x).length=sz)
  (hdec:∀(n:Nat) (cs:List Value) (z:DataW H×List MemPlace),DataW.trod enc Tryz.prog W 0 (fun _=>true) true n e cs=some z→(∀k∈z.1.weights Tryz.prog e,k∈y.1.weights Tryz.prog t)→∃x:α,ok x∧cs=en x)
  (hw:∀k∈y.1.weights Tryz.prog t,k≤reachBytes)
  (h:DataW.trod enc Tryz.prog W 0 (fun _=>true) true fuel t v=some y):∃A n c L,v=[.slice A n c]∧Els sz en W A n L∧(∀x∈L,ok x)∧n≤c∧n*Tryz.prog.bytesOf e≤140737488351232:=by
 rcases open_slice ht h with ⟨hcs,_⟩ | ⟨a,len,cap,mm,nn,D,Pl,hcs,_,hl,_,hmm,hx,hi⟩
 ·exact ⟨none,0,0,[],hcs,Els.nil _ _,by simp,Nat.le_refl _,by omega⟩
 ·simp only [if_true] at hmm;subst hmm;rw [hsz] at hi;have hwts:∀i,i < mm→∀k∈(D i).weights Tryz.prog e,k∈y.1.weights Tryz.prog t:=by
   intro i him k hk;rw [hx];unfold DataW.weights;rw [ht];simp only;refine List.mem_cons_of_mem _ ?_;have hm:∀(l:List (DataW H)) (d:DataW H),d∈l→∀k∈d.weights Tryz.prog e,k∈DataW.weightsAll Tryz.prog e l:=by
    intro l
    induction l with
    | nil=>intro d hd;simp at hd
    | cons a l ih =>
     intro d hd k hk;unfold DataW.weightsAll;rcases List.mem_cons.1 hd with rfl | hd
     ·exact List.mem_append_left _ hk
     ·exact List.mem_append_right _ (ih d hd k hk)
   rcases Nat.lt_or_ge i len with h | h
   ·exact List.mem_append_left _ (hm _ (D i) (List.mem_map.2 ⟨i,List.mem_range.2 h,rfl⟩) k hk)
   ·exact List.mem_append_right _ (hm _ (D i) (List.mem_map.2 ⟨i-len,List.mem_range.2 (by omega),by rw [show len+(i-len)=i by omega]⟩) k hk)
  have hw1:(len+(mm-len))*Tryz.prog.bytesOf e≤reachBytes:=by
   refine hw _ ?_;rw [hx];unfold DataW.weights;rw [ht];simp only [List.length_map,List.length_range,List.mem_cons,true_or]
  rw [zSe] at hw1;have hbound:len≤17592186043904:=by
   have:len*8≤(len+(mm-len))*Tryz.prog.bytesOf e:=Nat.mul_le_mul (by omega) hby;omega
  have hrec:∀i,i < mm→∃x:α,ok x∧∀q u,(en x)[q]? = some u→W.cell? ((a.add (i*sz)).add q)=some u:=by
   intro i him;obtain ⟨cs',hc,hd⟩:=hi i him;obtain ⟨x,hok,he⟩:=hdec _ _ _ hd (hwts i him);obtain ⟨_,hcl,hcell⟩:=World.cells?_some hc;refine ⟨x,hok,fun q u hq=>?_⟩;have hql:=(List.getElem?_eq_some_iff.1 hq).1;rw [hcell q (by rw [hlen] at hql;exact hql),he];exact hq
  let lf:Nat→α:=fun i=>if h:i < mm then Classical.choose (hrec i h) else d0
  have hlf:∀i,i < mm→ok (lf i)∧∀q u,(en (lf i))[q]? = some u→W.cell? ((a.add (i*sz)).add q)=some u:=by
   intro i him;have:lf i=Classical.choose (hrec i him):=dif_pos him;rw [this];exact Classical.choose_spec (hrec i him)
  clear_value lf
  refine ⟨some a,len,mm,(List.range len).map lf,hcs,⟨by simp,hbound,fun hn=>?_⟩,fun x hx=>?_,hl,Nat.le_trans (Nat.mul_le_mul_right _ (by omega)) hw1⟩
  ·have h00:=(hlf 0 (by omega)).2 0 ((en (lf 0))[0]'(by rw [hlen];omega)) (List.getElem?_eq_getElem _);have ea:(a.add (0*sz)).add 0=a:=by simp [Addr.add]
   rw [ea] at h00;have hsp:=World.cell?_spot h00;have hae:a=⟨a.block,a.off,none⟩:=by cases a;simp at hsp;subst hsp;rfl
   refine ⟨a.block,a.off,by rw [←hae],World.block_lt_of_cell? _ _ h00,fun j x hx q u hu=>?_⟩;rw [List.getElem?_map] at hx;obtain ⟨i,hi',rfl⟩:=Option.map_eq_some_iff.1 hx;have hj:j < len:=by
    have:=(List.getElem?_eq_some_iff.1 hi').1;simpa using this
   rw [List.getElem?_range hj] at hi';injection hi' with hi'
   subst hi';have hq:(a.add (j*sz)).add q=⟨a.block,a.off+j*sz+q,none⟩:=by rw [hae,Addr.add_lit,Addr.add_lit]
   rw [←hq];exact (hlf j (by omega)).2 q u hu
  ·obtain ⟨i,hi',rfl⟩:=List.mem_map.1 hx;exact (hlf i (by have:=List.mem_range.1 hi';omega)).1
theorem zQj {ts:List TypeId} {ds:List (DataW H)} (h:(DataW.weightsEach Tryz.prog ts ds).all (·≤reachBytes)=true) {j:Nat} {t:TypeId} {d:DataW H} (ht:ts[j]? = some t) (hd:ds[j]? = some d) :
  ∀x∈d.weights Tryz.prog t,x≤reachBytes:=fun x hx=>by
 have:=List.all_eq_true.1 h x (DataW.weights_mem_each ht hd x hx);simpa using this
theorem zSf {v:Value} {d:DataW H} {ps:List MemPlace} (h:DataW.Trod enc Tryz.prog W 0 (fun _=>true) true 24 v d ps) {base:Nat} (hv:Value.okWide Tryz.prog W .any base 24 v)
  (hw:∀x∈d.weights Tryz.prog 24,x≤reachBytes):∃A n c L re lo,v=frV A n c re lo∧Fgs W A n L∧n≤c∧I64 re∧I64 lo:=by
 obtain ⟨cs,rfl,hsz⟩:=okWide_struct Tryz.underlying24 hv;obtain ⟨c0,c1,c2,rfl⟩:=array3 (hsz.trans (show Tryz.prog.cellsOf 24=3 by kernel_rfl));obtain ⟨fuel,hf⟩:=h;obtain ⟨m,_,hk⟩:=zSM Tryz.underlying24 hf;obtain ⟨y0,h0,w0⟩:=hk 0 _ rfl;obtain ⟨y1,h1,_⟩:=hk 1 _ rfl;obtain ⟨y2,h2,_⟩:=hk 2 _ rfl;simp only [List.getElem_toArray,List.getElem_cons_zero,List.getElem_cons_succ,zKt,show Tryz.prog.cellsOf 22=1 by kernel_rfl] at h0 h1 h2;obtain ⟨A,n,c,L,e0,hL,hok,hc,_⟩:=zVU (ok:=FgOk) df Tryz.underlying22 zFW (by decide) (by rw [show Tryz.prog.bytesOf 90=24 by kernel_rfl];decide) (fun _=>rfl) (fun n cs z hz _=>zWN hz) (fun k hk=>hw k (w0 k hk)) h0;obtain ⟨re,hre,e1⟩:=zMC h1;obtain ⟨lo,hlo,e2⟩:=zMC h2;simp only [Value.cells,List.drop_zero,List.drop_succ_cons,List.take_succ_cons,List.take_zero,List.cons.injEq,and_true] at e0 e1 e2;subst e0;subst e1;subst e2
 exact ⟨A,n,c,L,re,lo,rfl,⟨hL,hok⟩,hc,hre,hlo⟩
end
end Go.Proofs.YtlmdfmnbcndhoaaGreatDoor
