/-
  Lemmas, part 47. Conditions: each theorem's own.
-/
import Derived.Test.YtlmdfmnbcndhoaaGreatDoorRl44
import Derived.Test.YtlmdfmnbcndhoaaGreatDoorRl45
import Derived.Test.YtlmdfmnbcndhoaaGreatDoorRl46
import Derived.Test.YtlmdfmnbcndhoaaGreatDoorRl25
import Derived.Test.YtlmdfmnbcndhoaaGreatDoorRl26
import Derived.Test.YtlmdfmnbcndhoaaGreatDoorRl38
namespace Go.Proofs.YtlmdfmnbcndhoaaGreatDoor
open Go.RowKit
theorem zSE (A:Option Addr) (n c:Nat) (re lo:Int) (w:World):(Instr.field 24 (.agg #[.slice A n c,.int .i64 re,.int .i64 lo]) 0).run Tryz.prog w=.ok (.slice A n c) w:=by kernel_rfl
theorem zWG:TOk AL:=fun i hi=>by
 have:=zPx i hi;unfold zCV at this;simp only [Bool.and_eq_true] at this;exact this.1
theorem zFn {o:Og} {b:Bool} (h:zAg 126 o=b) (B:Option Addr) (m d:Nat) (w:World) (hO:OpIn w o B m d) :
  Calls Tryz.prog 55 #[opV o B m d,.int .i64 126] w fun e w'=>e=.returned (.bool b)∧Below w.heap.size w w':=zNe h B m d w hO
theorem zKN {o:Og} {S:List UInt8} (h:zBb AL o=S) {A:Option Addr} {c:Nat} (B:Option Addr) (m d:Nat) (w:World) (hA:Fgs w A 126 AL) (hO:OpIn w o B m d) (hr:zAg 126 o=true) (hm:m≤10000) :
  Calls Tryz.prog 25 #[frV A 126 c 0 1,opV o B m d] w fun e w'=>e=.returned (.string (bA S))∧Below w.heap.size w w':=zNf h B m d w hA zWG hO hr hm
theorem zSF {S:List UInt8} {g:Og} (h:zKU S=g) (hS:S.length≤8000) (w:World):Calls Tryz.prog 54 #[.string (bA S)] w (OpG w g):=by
 subst h;exact zOd S w hS
theorem zOk {L:List Fg} {o o':Og} {b:Bool} (h1:zTb L o=o') (h2:zRz L o=b) {A:Option Addr} {n c:Nat} {re lo:Int} {B:Option Addr} {m d:Nat} (w:World) (hA:Fgs w A n L) (hO:Stps w B m o.path) (hr:zAg 126 o=true) (hm:m≤10000) :
  Calls Tryz.prog 57 #[frV A n c re lo,opV o B m d] w (SetGives w o' b):=by
 subst h1;subst h2;exact zKK A n c L re lo o B m d w hA hO hr hm
theorem OpErr.of {w0 w':World} {o:Og} {er:Int} {B:Option Addr} {m d:Nat} (hrow:Row w' w0.heap.size 5 B m d (o.path.flatMap zCa)) (hm:m=o.path.length) (hb:Below w0.heap.size w0 w') :
  OpErr w0 o er (.returned (.tuple #[opV o B m d,.int .i64 er])) w':=⟨B,m,d,rfl,hrow,hm,hb⟩
set_option maxHeartbeats 12800000 in
set_option maxRecDepth 100000 in
theorem zHQ (A:Option Addr) (n c:Nat) (L:List Fg) (re lo:Int) (S:List UInt8) (w:World) (hA:Fgs w A n L) (hv:frB L re lo=true) :
  Calls Tryz.prog 20 #[frV A n c re lo,.string (bA S)] w (OpErr w (rdO L re lo S) (rdE L re lo S)):=by
 have hs:=zCD S;obtain ⟨nS,eN⟩:∃k,S.length=k:=⟨_,rfl⟩
 rw [eN] at hs;have HN:=qH eN;have HA:=qH hA;have HB:=qH (Below.refl w.heap.size w);obtain ⟨E,hE⟩:∃E,rdE L re lo S=E:=⟨_,rfl⟩
 obtain ⟨ro,hro⟩:∃o,rdO L re lo S=o:=⟨_,rfl⟩
 have HE:=qH hE;have Dq:=qH hro;have HV:=qH hv;have bz:=zDC;have bff:=zSE;rw [hE,hro];clear eN hA hE hro hv;go_enter Tryz.func20,Tryz.ntmps20;have hba:Below w.heap.size w ((w.alloc (.cells #[.slice A n c,.int .i64 re,.int .i64 lo] 24)).alloc (.cells #[.int .i64 0,.int .i64 0,.int .i64 0,.int .i64 0,.bool false,.int .i64 0,.slice none 0 0,.bool false] 32)):=((Below.refl _ _).alloc (Nat.le_refl _) _).alloc (by simp) _;have ap:Blk ((w.alloc (.cells #[.slice A n c,.int .i64 re,.int .i64 lo] 24)).alloc (.cells #[.int .i64 0,.int .i64 0,.int .i64 0,.int .i64 0,.bool false,.int .i64 0,.slice none 0 0,.bool false] 32)) w.heap.size 24 #[.slice A n c,.int .i64 re,.int .i64 lo]:=(Blk.new w _ _).alloc _;have aa:Blk ((w.alloc (.cells #[.slice A n c,.int .i64 re,.int .i64 lo] 24)).alloc (.cells #[.int .i64 0,.int .i64 0,.int .i64 0,.int .i64 0,.bool false,.int .i64 0,.slice none 0 0,.bool false] 32)) (w.heap.size+1) 32 #[.int .i64 0,.int .i64 0,.int .i64 0,.int .i64 0,.bool false,.int .i64 0,.slice none 0 0,.bool false]:=heap_alloc2_new w _ _;replace HB:=qH hba;clear hba;go_upto_region 1 with fail
 generalize (w.alloc (.cells #[.slice A n c,.int .i64 re,.int .i64 lo] 24)).alloc (.cells #[.int .i64 0,.int .i64 0,.int .i64 0,.int .i64 0,.bool false,.int .i64 0,.slice none 0 0,.bool false] 32)=X at HB ap aa ⊢;obtain ⟨aQ,nH⟩:∃a,w.heap.size=a:=⟨_,rfl⟩
 obtain ⟨ag,cM⟩:∃a,w.heap.size+1=a:=⟨_,rfl⟩
 have oX:w.heap.size≤aQ:=by omega
 have bW:w.heap.size≤ag:=by omega
 have mU:aQ < ag:=by omega
 rw [cM] at aa ⊢;have ap:Blk X aQ 24 #[.slice A n c,.int .i64 re,.int .i64 lo]:=by rw [←nH];exact ap
 rw [nH];clear nH cM;by_cases h8:8000 < nS
 ·have i0:(8000:Int) < (nS:Int):=by omega
  have tp:=qH (show E=7∧ro=o0 from by
    have hb:zAy L re lo S=7:=by unfold zAy;rw [if_pos HV.out,if_pos (by rw [HN.out];exact h8)]
    rw [←HE.out,←Dq.out];unfold rdE rdO;rw [if_neg (by omega),if_neg (by omega)];exact ⟨hb,rfl⟩)
  have dt:X.cell? ⟨ag,0,none⟩=some (.int .i64 0):=(aa.cell 0).trans rfl;have dr:X.cell? ⟨ag,1,none⟩=some (.int .i64 0):=(aa.cell 1).trans rfl;have dq:X.cell? ⟨ag,2,none⟩=some (.int .i64 0):=(aa.cell 2).trans rfl;have dn:X.cell? ⟨ag,3,none⟩=some (.int .i64 0):=(aa.cell 3).trans rfl;have dm:X.cell? ⟨ag,4,none⟩=some (.bool false):=(aa.cell 4).trans rfl;have dk:X.cell? ⟨ag,5,none⟩=some (.int .i64 0):=(aa.cell 5).trans rfl;have dj:X.cell? ⟨ag,6,none⟩=some (.slice none 0 0):=(aa.cell 6).trans rfl;have di:X.cell? ⟨ag,7,none⟩=some (.bool false):=(aa.cell 7).trans rfl;have c8:=aa.frozen 0;have cZ:=aa.frozen 1;have cY:=aa.frozen 2;have cX:=aa.frozen 3;have cW:=aa.frozen 4;have cV:=aa.frozen 5;have cU:=aa.frozen 6;have cT:=aa.frozen 7;have SV:=qH (aa.store8 (.int .i64 0) (.int .i64 0) (.int .i64 0) (.int .i64 0) (.bool false) (.int .i64 0) (.slice none 0 0) (.bool false));have BV:=zAd HB.out bW (.int .i64 0) (.int .i64 0) (.int .i64 0) (.int .i64 0) (.bool false) (.int .i64 0) (.slice none 0 0) (.bool false);have dz:=qH (show OpErr w ro E (.returned (.tuple #[.agg #[.int .i64 0,.int .i64 0,.int .i64 0,.int .i64 0,.bool false,.int .i64 0,.slice none 0 0,.bool false],.int .i64 7])) ((((((((X.setCell ⟨ag,0,none⟩ (.int .i64 0)).setCell ⟨ag,1,none⟩ (.int .i64 0)).setCell ⟨ag,2,none⟩ (.int .i64 0)).setCell ⟨ag,3,none⟩ (.int .i64 0)).setCell ⟨ag,4,none⟩ (.bool false)).setCell ⟨ag,5,none⟩ (.int .i64 0)).setCell ⟨ag,6,none⟩ (.slice none 0 0)).setCell ⟨ag,7,none⟩ (.bool false)) from by rw [tp.out.1,tp.out.2];exact OpErr.of (o:=o0) (Row.none_ _ _ _) rfl BV);clear ap aa BV;go_wp2_with fail
  exact zAD rfl rfl rfl SV.out Tryz.underlying32 rfl (by kernel_rfl) rfl dz.out
 have i0:¬(8000:Int) < (nS:Int):=by omega
 have zi:=qH (show E=zDe L S∧ro=zEt L S by
  have hb:zAy L re lo S=0:=by unfold zAy;rw [if_pos HV.out,if_neg (by rw [HN.out];exact h8)]
  rw [←HE.out,←Dq.out];unfold rdE rdO;rw [if_pos hb,if_pos hb];exact ⟨rfl,rfl⟩)
 obtain ⟨o,ho⟩:∃o,zKU S=o:=⟨_,rfl⟩
 have hok:=zWF S;rw [ho] at hok;have fk:=qH (zSF ho (by rw [HN.out];omega));obtain ⟨r,hr⟩:∃b,zAg 126 o=b:=⟨_,rfl⟩
 obtain ⟨W,hW⟩:∃W,zBb AL o=W:=⟨_,rfl⟩
 obtain ⟨o',xw⟩:∃x,zTb L o=x:=⟨_,rfl⟩
 obtain ⟨b',uB⟩:∃x,zRz L o=x:=⟨_,rfl⟩
 have GF:=qH (show (r&&decide (W=S))=false→E=6∧ro=o0 from fun h=>by
  have:=zUm L (S:=S) (by unfold okB;rw [ho,hr,hW];exact h)
  rw [zi.out.1,zi.out.2];exact this)
 have yS:=qH (show (r&&decide (W=S))=true→E=(if b' then 0 else 8)∧ro=(if b' then o' else o0) from fun h=>by
  have:=zRA L (S:=S) (by unfold okB;rw [ho,hr,hW];exact h)
  rw [ho,xw,uB] at this;rw [zi.out.1,zi.out.2];exact this)
 have gw:=qH hok;have HR:=qH hr;have HW:=qH hW;have HO':=qH xw;have HB':=qH uB;clear hok hr hW ho xw uB zi HE Dq h8;obtain ⟨okind,of,⟨off,ofl,offar,ofpc⟩,opath,oover⟩:=o;obtain ⟨pkind,pf,⟨pff,pfl,pffar,pfpc⟩,ppath,pover⟩:=o';go_wp2_with fail
 refine (fk.out _).mono ?_;rintro e Y0 ⟨B,m,d,rfl,fR,hm,hb⟩;have HM:=qH hm;have mu:m≤10000:=by have h1:=gw.out.2;have h2:=HN.out;rw [hm];simp only at h1 ⊢;omega
 clear hm fk;have Au:∀k,blk B=some k→k≠aQ:=fun k hk=>Nat.ne_of_gt (Nat.lt_of_lt_of_le ap.lt (fR.lt k hk).1)
 have yA:∀k,blk B=some k→k≠ag:=fun k hk=>Nat.ne_of_gt (Nat.lt_of_lt_of_le aa.lt (fR.lt k hk).1)
 have yu:=HB.out.size;replace ap:=ap.below hb ap.lt;replace aa:=aa.below hb aa.lt;replace HB:=qH (zAa HB.out hb HB.out.size);replace fR:=fR.mono yu;clear hb yu;have q1:=(Below.refl Y0.heap.size Y0).alloc (Nat.le_refl _) (.cells #[.int .i64 okind,.int .i64 of,.int .i64 off,.int .i64 ofl,.bool offar,.int .i64 ofpc,.slice B m d,.bool oover] 32);have dF:=ap.lt;have aj:=aa.lt;have qn:∀k,blk B=some k→k≠Y0.heap.size:=fun k hk=>Nat.ne_of_lt (fR.lt k hk).2
 have aF:=HB.out.size;replace ap:=ap.below q1 ap.lt;replace aa:=aa.below q1 aa.lt;replace fR:=fR.below q1;replace HB:=qH (zAa HB.out q1 HB.out.size);have ab:=Blk.new Y0 32 #[.int .i64 okind,.int .i64 of,.int .i64 off,.int .i64 ofl,.bool offar,.int .i64 ofpc,.slice B m d,.bool oover];clear q1;go_upto_region 4 with fail
 generalize Y0.alloc (.cells #[.int .i64 okind,.int .i64 of,.int .i64 off,.int .i64 ofl,.bool offar,.int .i64 ofpc,.slice B m d,.bool oover] 32)=Y at ap aa ab fR HB ⊢;generalize hz_op:Y0.heap.size=ae at ab aF dF aj qn ⊢;clear hz_op;have pJ:=qH (show OpIn Y ⟨okind,of,⟨off,ofl,offar,ofpc⟩,opath,oover⟩ B m d from ⟨gw.out.1.1,zHo fR (by omega) gw.out.1.2,fR.cap⟩);obtain ⟨q,hq⟩:∃q,(r&&decide (W=S))=q:=⟨_,rfl⟩
 have HQ:=qH hq;have nt:=qH ab;go_cut [27] (fun v27 wv=>v27=.bool (!q)∧∃V:World,V=wv∧Below Y.heap.size Y V)
 case first =>
  have az:Y.cell? ⟨ae,0,none⟩=some (.int .i64 okind):=(ab.cell 0).trans rfl;have bK:Y.cell? ⟨ae,1,none⟩=some (.int .i64 of):=(ab.cell 1).trans rfl;have aV:Y.cell? ⟨ae,2,none⟩=some (.int .i64 off):=(ab.cell 2).trans rfl;have bE:Y.cell? ⟨ae,3,none⟩=some (.int .i64 ofl):=(ab.cell 3).trans rfl;have bD:Y.cell? ⟨ae,4,none⟩=some (.bool offar):=(ab.cell 4).trans rfl;have bC:Y.cell? ⟨ae,5,none⟩=some (.int .i64 ofpc):=(ab.cell 5).trans rfl;have bJ:Y.cell? ⟨ae,6,none⟩=some (.slice B m d):=(ab.cell 6).trans rfl;have aX:Y.cell? ⟨ae,7,none⟩=some (.bool oover):=(ab.cell 7).trans rfl;clear ap aa ab fR
  cases r with
  | false =>
   have hqf:q=false:=by rw [←HQ.out];rfl
   subst hqf
   first
    | go_region_with (first
     | (refine unwanted_step (by rfl) ?_)
     | (go_at_call 56;refine (zGE _).mono ?_;rintro e wa ⟨A2,c2,rfl,nh,hba⟩;have hbq:Below Y.heap.size Y wa:=(by first | exact zAa hbr hba hbr.size | exact zAa ((Below.refl Y.heap.size Y).drew) hba (Nat.le_refl _));have HF:=qH (zIq nh);have kka:=nt.out.below hbq nt.out.lt;have Bn:wa.cell? ⟨ae,0,none⟩=some (.int .i64 okind):=(kka.cell 0).trans rfl;have Bl:wa.cell? ⟨ae,1,none⟩=some (.int .i64 of):=(kka.cell 1).trans rfl;have Bj:wa.cell? ⟨ae,2,none⟩=some (.int .i64 off):=(kka.cell 2).trans rfl;have Bg:wa.cell? ⟨ae,3,none⟩=some (.int .i64 ofl):=(kka.cell 3).trans rfl;have Be:wa.cell? ⟨ae,4,none⟩=some (.bool offar):=(kka.cell 4).trans rfl;have Bc:wa.cell? ⟨ae,5,none⟩=some (.int .i64 ofpc):=(kka.cell 5).trans rfl;have Ba:wa.cell? ⟨ae,6,none⟩=some (.slice B m d):=(kka.cell 6).trans rfl;have A8:wa.cell? ⟨ae,7,none⟩=some (.bool oover):=(kka.cell 7).trans rfl)
     | (go_at_call 55;(first | refine (zFn HR.out B m d _ (pJ.out.below hbq)).mono ?_ | refine (zFn HR.out B m d _ (pJ.out.below hbq.drew)).mono ?_);rintro e wr ⟨rfl,ur⟩;have hbr:Below Y.heap.size Y wr:=zAa hbq ur hbq.size;have kkr:=nt.out.below hbr nt.out.lt;have Bm:wr.cell? ⟨ae,0,none⟩=some (.int .i64 okind):=(kkr.cell 0).trans rfl;have Bk:wr.cell? ⟨ae,1,none⟩=some (.int .i64 of):=(kkr.cell 1).trans rfl;have Bh:wr.cell? ⟨ae,2,none⟩=some (.int .i64 off):=(kkr.cell 2).trans rfl;have Bf:wr.cell? ⟨ae,3,none⟩=some (.int .i64 ofl):=(kkr.cell 3).trans rfl;have Bd:wr.cell? ⟨ae,4,none⟩=some (.bool offar):=(kkr.cell 4).trans rfl;have Bb:wr.cell? ⟨ae,5,none⟩=some (.int .i64 ofpc):=(kkr.cell 5).trans rfl;have A9:wr.cell? ⟨ae,6,none⟩=some (.slice B m d):=(kkr.cell 6).trans rfl;have A7:wr.cell? ⟨ae,7,none⟩=some (.bool oover):=(kkr.cell 7).trans rfl))
    | fail
   all_goals
    go_wp2_with fail
    go_meet
    case rel=>exact ⟨rfl,_,rfl,hbr⟩
  | true =>
   have n1:((bA W).toList==(bA S).toList)=q:=by rw [←HQ.out,zBC,Bool.true_and];by_cases e:W=S<;>simp [e]
   go_region_with (first
    | (go_at_call 56;refine (zGE _).mono ?_;rintro e wa ⟨A2,c2,rfl,nh,hba⟩;have hbq:Below Y.heap.size Y wa:=(by first | exact zAa hbr hba hbr.size | exact zAa ((Below.refl Y.heap.size Y).drew) hba (Nat.le_refl _));have HF:=qH (zIq nh);have kka:=nt.out.below hbq nt.out.lt;have Bn:wa.cell? ⟨ae,0,none⟩=some (.int .i64 okind):=(kka.cell 0).trans rfl;have Bl:wa.cell? ⟨ae,1,none⟩=some (.int .i64 of):=(kka.cell 1).trans rfl;have Bj:wa.cell? ⟨ae,2,none⟩=some (.int .i64 off):=(kka.cell 2).trans rfl;have Bg:wa.cell? ⟨ae,3,none⟩=some (.int .i64 ofl):=(kka.cell 3).trans rfl;have Be:wa.cell? ⟨ae,4,none⟩=some (.bool offar):=(kka.cell 4).trans rfl;have Bc:wa.cell? ⟨ae,5,none⟩=some (.int .i64 ofpc):=(kka.cell 5).trans rfl;have Ba:wa.cell? ⟨ae,6,none⟩=some (.slice B m d):=(kka.cell 6).trans rfl;have A8:wa.cell? ⟨ae,7,none⟩=some (.bool oover):=(kka.cell 7).trans rfl)
    | (go_at_call 55;(first | refine (zFn HR.out B m d _ (pJ.out.below hbq)).mono ?_ | refine (zFn HR.out B m d _ (pJ.out.below hbq.drew)).mono ?_);rintro e wr ⟨rfl,ur⟩;have hbr:Below Y.heap.size Y wr:=zAa hbq ur hbq.size;have kkr:=nt.out.below hbr nt.out.lt;have Bm:wr.cell? ⟨ae,0,none⟩=some (.int .i64 okind):=(kkr.cell 0).trans rfl;have Bk:wr.cell? ⟨ae,1,none⟩=some (.int .i64 of):=(kkr.cell 1).trans rfl;have Bh:wr.cell? ⟨ae,2,none⟩=some (.int .i64 off):=(kkr.cell 2).trans rfl;have Bf:wr.cell? ⟨ae,3,none⟩=some (.int .i64 ofl):=(kkr.cell 3).trans rfl;have Bd:wr.cell? ⟨ae,4,none⟩=some (.bool offar):=(kkr.cell 4).trans rfl;have Bb:wr.cell? ⟨ae,5,none⟩=some (.int .i64 ofpc):=(kkr.cell 5).trans rfl;have A9:wr.cell? ⟨ae,6,none⟩=some (.slice B m d):=(kkr.cell 6).trans rfl;have A7:wr.cell? ⟨ae,7,none⟩=some (.bool oover):=(kkr.cell 7).trans rfl)
    | (go_at_call 25;(first | refine (zKN HW.out B m d _ HF.out (pJ.out.below hbq) HR.out mu).mono ?_ | refine (zKN HW.out B m d _ (HF.out.below (Below.refl _ _).drew) (pJ.out.below hbq.drew) HR.out mu).mono ?_);rintro e ww ⟨rfl,hbw⟩;have hbz:Below Y.heap.size Y ww:=zAa hbq hbw hbq.size))
   all_goals
    go_wp2_with fail
    go_meet
    case rel=>exact ⟨by first | rfl | (rw [←n1];rfl) | (simp;exact n1),_,rfl,hbz⟩
 case rest =>
  obtain ⟨rfl,V,hV,hbv⟩:=hcut;subst hV;replace ap:=ap.below hbv ap.lt;replace aa:=aa.below hbv aa.lt;replace ab:=ab.below hbv ab.lt;replace fR:=fR.below hbv;replace HB:=qH (zAa HB.out hbv HB.out.size);clear hbv nt
  cases q with
  | false =>
   simp only [Bool.not_false];have tp:=qH (show E=6∧ro=o0 from GF.out HQ.out);have dt:V.cell? ⟨ag,0,none⟩=some (.int .i64 0):=(aa.cell 0).trans rfl;have dr:V.cell? ⟨ag,1,none⟩=some (.int .i64 0):=(aa.cell 1).trans rfl;have dq:V.cell? ⟨ag,2,none⟩=some (.int .i64 0):=(aa.cell 2).trans rfl;have dn:V.cell? ⟨ag,3,none⟩=some (.int .i64 0):=(aa.cell 3).trans rfl;have dm:V.cell? ⟨ag,4,none⟩=some (.bool false):=(aa.cell 4).trans rfl;have dk:V.cell? ⟨ag,5,none⟩=some (.int .i64 0):=(aa.cell 5).trans rfl;have dj:V.cell? ⟨ag,6,none⟩=some (.slice none 0 0):=(aa.cell 6).trans rfl;have di:V.cell? ⟨ag,7,none⟩=some (.bool false):=(aa.cell 7).trans rfl;have c8:=aa.frozen 0;have cZ:=aa.frozen 1;have cY:=aa.frozen 2;have cX:=aa.frozen 3;have cW:=aa.frozen 4;have cV:=aa.frozen 5;have cU:=aa.frozen 6;have cT:=aa.frozen 7;have SV:=qH (aa.store8 (.int .i64 0) (.int .i64 0) (.int .i64 0) (.int .i64 0) (.bool false) (.int .i64 0) (.slice none 0 0) (.bool false));have BV:=zAd HB.out bW (.int .i64 0) (.int .i64 0) (.int .i64 0) (.int .i64 0) (.bool false) (.int .i64 0) (.slice none 0 0) (.bool false);have dz:=qH (show OpErr w ro E (.returned (.tuple #[.agg #[.int .i64 0,.int .i64 0,.int .i64 0,.int .i64 0,.bool false,.int .i64 0,.slice none 0 0,.bool false],.int .i64 6])) ((((((((V.setCell ⟨ag,0,none⟩ (.int .i64 0)).setCell ⟨ag,1,none⟩ (.int .i64 0)).setCell ⟨ag,2,none⟩ (.int .i64 0)).setCell ⟨ag,3,none⟩ (.int .i64 0)).setCell ⟨ag,4,none⟩ (.bool false)).setCell ⟨ag,5,none⟩ (.int .i64 0)).setCell ⟨ag,6,none⟩ (.slice none 0 0)).setCell ⟨ag,7,none⟩ (.bool false)) from by rw [tp.out.1,tp.out.2];exact OpErr.of (o:=o0) (Row.none_ _ _ _) rfl BV);clear ap aa ab fR BV;go_wp2_with fail
   exact zAD rfl rfl rfl SV.out Tryz.underlying32 rfl (by kernel_rfl) rfl dz.out
  | true =>
   simp only [Bool.not_true];obtain ⟨hr1,_⟩:r=true∧decide (W=S)=true:=by have h:=HQ.out;rw [Bool.and_eq_true] at h;exact h
   have AF:=qH (HR.out.trans hr1);have HY:=qH (yS.out HQ.out);have mO:=qH pJ.out.path;clear hr1 GF yS HQ HR HW pJ;replace mO:=qH (show Stps V B m opath from (zHo fR (by omega) gw.out.1.2));have jv:V.cell? ⟨aQ,0,none⟩=some (.slice A n c):=(ap.cell 0).trans rfl;have ju:V.cell? ⟨aQ,1,none⟩=some (.int .i64 re):=(ap.cell 1).trans rfl;have js:V.cell? ⟨aQ,2,none⟩=some (.int .i64 lo):=(ap.cell 2).trans rfl;have az:V.cell? ⟨ae,0,none⟩=some (.int .i64 okind):=(ab.cell 0).trans rfl;have bK:V.cell? ⟨ae,1,none⟩=some (.int .i64 of):=(ab.cell 1).trans rfl;have aV:V.cell? ⟨ae,2,none⟩=some (.int .i64 off):=(ab.cell 2).trans rfl;have bE:V.cell? ⟨ae,3,none⟩=some (.int .i64 ofl):=(ab.cell 3).trans rfl;have bD:V.cell? ⟨ae,4,none⟩=some (.bool offar):=(ab.cell 4).trans rfl;have bC:V.cell? ⟨ae,5,none⟩=some (.int .i64 ofpc):=(ab.cell 5).trans rfl;have bJ:V.cell? ⟨ae,6,none⟩=some (.slice B m d):=(ab.cell 6).trans rfl;have aX:V.cell? ⟨ae,7,none⟩=some (.bool oover):=(ab.cell 7).trans rfl;go_wp2_with fail
   refine (zOk HO'.out HB'.out _ (HA.out.below HB.out) mO.out AF.out mu).mono ?_;rintro e V2 ⟨B2,m2,d2,rfl,nB,db,hb⟩;have gE:=qH db;clear db mO;clear jv ju js az bK aV bE bD bC bJ aX;have At:∀k,blk B2=some k→k≠aQ:=fun k hk=>Nat.ne_of_gt (Nat.lt_of_lt_of_le ap.lt (nB.lt k hk).1)
   have o4:∀k,blk B2=some k→k≠ag:=fun k hk=>Nat.ne_of_gt (Nat.lt_of_lt_of_le aa.lt (nB.lt k hk).1)
   have As:∀k,blk B2=some k→k≠ae:=fun k hk=>Nat.ne_of_gt (Nat.lt_of_lt_of_le ab.lt (nB.lt k hk).1)
   have yt:=HB.out.size;replace ap:=ap.below hb ap.lt;replace aa:=aa.below hb aa.lt;replace ab:=ab.below hb ab.lt;replace fR:=fR.below hb;replace HB:=qH (zAa HB.out hb HB.out.size);replace nB:=nB.mono yt;clear hb yt;have q2:=(Below.refl V2.heap.size V2).alloc (Nat.le_refl _) (.cells #[.int .i64 pkind,.int .i64 pf,.int .i64 pff,.int .i64 pfl,.bool pffar,.int .i64 pfpc,.slice B2 m2 d2,.bool pover] 32);have mV:=ap.lt;have ke:=aa.lt;have mT:=ab.lt;have o9:∀k,blk B=some k→k≠V2.heap.size:=fun k hk=>Nat.ne_of_lt (fR.lt k hk).2
   have o5:∀k,blk B2=some k→k≠V2.heap.size:=fun k hk=>Nat.ne_of_lt (nB.lt k hk).2
   have uX:=HB.out.size;replace ap:=ap.below q2 ap.lt;replace aa:=aa.below q2 aa.lt;replace ab:=ab.below q2 ab.lt;replace fR:=fR.below q2;replace nB:=nB.below q2;replace HB:=qH (zAa HB.out q2 HB.out.size);have bI:=Blk.new V2 32 #[.int .i64 pkind,.int .i64 pf,.int .i64 pff,.int .i64 pfl,.bool pffar,.int .i64 pfpc,.slice B2 m2 d2,.bool pover];clear q2;go_upto_region 7 with fail
   generalize V2.alloc (.cells #[.int .i64 pkind,.int .i64 pf,.int .i64 pff,.int .i64 pfl,.bool pffar,.int .i64 pfpc,.slice B2 m2 d2,.bool pover] 32)=Z at ap aa ab bI fR nB HB ⊢;generalize hz_op2:V2.heap.size=a_op2 at bI uX mV ke mT o9 o5 ⊢;clear hz_op2
   cases b' with
   | false =>
    have tp:=qH (show E=8∧ro=o0 from HY.out);have dt:Z.cell? ⟨ag,0,none⟩=some (.int .i64 0):=(aa.cell 0).trans rfl;have dr:Z.cell? ⟨ag,1,none⟩=some (.int .i64 0):=(aa.cell 1).trans rfl;have dq:Z.cell? ⟨ag,2,none⟩=some (.int .i64 0):=(aa.cell 2).trans rfl;have dn:Z.cell? ⟨ag,3,none⟩=some (.int .i64 0):=(aa.cell 3).trans rfl;have dm:Z.cell? ⟨ag,4,none⟩=some (.bool false):=(aa.cell 4).trans rfl;have dk:Z.cell? ⟨ag,5,none⟩=some (.int .i64 0):=(aa.cell 5).trans rfl;have dj:Z.cell? ⟨ag,6,none⟩=some (.slice none 0 0):=(aa.cell 6).trans rfl;have di:Z.cell? ⟨ag,7,none⟩=some (.bool false):=(aa.cell 7).trans rfl;have c8:=aa.frozen 0;have cZ:=aa.frozen 1;have cY:=aa.frozen 2;have cX:=aa.frozen 3;have cW:=aa.frozen 4;have cV:=aa.frozen 5;have cU:=aa.frozen 6;have cT:=aa.frozen 7;have SV:=qH (aa.store8 (.int .i64 0) (.int .i64 0) (.int .i64 0) (.int .i64 0) (.bool false) (.int .i64 0) (.slice none 0 0) (.bool false));have BV:=zAd HB.out bW (.int .i64 0) (.int .i64 0) (.int .i64 0) (.int .i64 0) (.bool false) (.int .i64 0) (.slice none 0 0) (.bool false);have dz:=qH (show OpErr w ro E (.returned (.tuple #[.agg #[.int .i64 0,.int .i64 0,.int .i64 0,.int .i64 0,.bool false,.int .i64 0,.slice none 0 0,.bool false],.int .i64 8])) ((((((((Z.setCell ⟨ag,0,none⟩ (.int .i64 0)).setCell ⟨ag,1,none⟩ (.int .i64 0)).setCell ⟨ag,2,none⟩ (.int .i64 0)).setCell ⟨ag,3,none⟩ (.int .i64 0)).setCell ⟨ag,4,none⟩ (.bool false)).setCell ⟨ag,5,none⟩ (.int .i64 0)).setCell ⟨ag,6,none⟩ (.slice none 0 0)).setCell ⟨ag,7,none⟩ (.bool false)) from by rw [tp.out.1,tp.out.2];exact OpErr.of (o:=o0) (Row.none_ _ _ _) rfl BV);clear ap aa ab bI fR nB BV;go_wp2_with fail
    exact zAD rfl rfl rfl SV.out Tryz.underlying32 rfl (by kernel_rfl) rfl dz.out
   | true =>
    have Db:Z.cell? ⟨a_op2,0,none⟩=some (.int .i64 pkind):=(bI.cell 0).trans rfl;have Da:Z.cell? ⟨a_op2,1,none⟩=some (.int .i64 pf):=(bI.cell 1).trans rfl;have C9:Z.cell? ⟨a_op2,2,none⟩=some (.int .i64 pff):=(bI.cell 2).trans rfl;have C8:Z.cell? ⟨a_op2,3,none⟩=some (.int .i64 pfl):=(bI.cell 3).trans rfl;have C7:Z.cell? ⟨a_op2,4,none⟩=some (.bool pffar):=(bI.cell 4).trans rfl;have C6:Z.cell? ⟨a_op2,5,none⟩=some (.int .i64 pfpc):=(bI.cell 5).trans rfl;have C5:Z.cell? ⟨a_op2,6,none⟩=some (.slice B2 m2 d2):=(bI.cell 6).trans rfl;have C4:Z.cell? ⟨a_op2,7,none⟩=some (.bool pover):=(bI.cell 7).trans rfl;have dt:Z.cell? ⟨ag,0,none⟩=some (.int .i64 0):=(aa.cell 0).trans rfl;have dr:Z.cell? ⟨ag,1,none⟩=some (.int .i64 0):=(aa.cell 1).trans rfl;have dq:Z.cell? ⟨ag,2,none⟩=some (.int .i64 0):=(aa.cell 2).trans rfl;have dn:Z.cell? ⟨ag,3,none⟩=some (.int .i64 0):=(aa.cell 3).trans rfl;have dm:Z.cell? ⟨ag,4,none⟩=some (.bool false):=(aa.cell 4).trans rfl;have dk:Z.cell? ⟨ag,5,none⟩=some (.int .i64 0):=(aa.cell 5).trans rfl;have dj:Z.cell? ⟨ag,6,none⟩=some (.slice none 0 0):=(aa.cell 6).trans rfl;have di:Z.cell? ⟨ag,7,none⟩=some (.bool false):=(aa.cell 7).trans rfl;have c8:=aa.frozen 0;have cZ:=aa.frozen 1;have cY:=aa.frozen 2;have cX:=aa.frozen 3;have cW:=aa.frozen 4;have cV:=aa.frozen 5;have cU:=aa.frozen 6;have cT:=aa.frozen 7;have SV:=qH (aa.store8 (.int .i64 pkind) (.int .i64 pf) (.int .i64 pff) (.int .i64 pfl) (.bool pffar) (.int .i64 pfpc) (.slice B2 m2 d2) (.bool pover));have BV:=zAd HB.out bW (.int .i64 pkind) (.int .i64 pf) (.int .i64 pff) (.int .i64 pfl) (.bool pffar) (.int .i64 pfpc) (.slice B2 m2 d2) (.bool pover);have RV:=nB.store8of o4 (.int .i64 pkind) (.int .i64 pf) (.int .i64 pff) (.int .i64 pfl) (.bool pffar) (.int .i64 pfpc) (.slice B2 m2 d2) (.bool pover);have dz:=qH (show OpErr w ro E (.returned (.tuple #[.agg #[.int .i64 pkind,.int .i64 pf,.int .i64 pff,.int .i64 pfl,.bool pffar,.int .i64 pfpc,.slice B2 m2 d2,.bool pover],.int .i64 0])) ((((((((Z.setCell ⟨ag,0,none⟩ (.int .i64 pkind)).setCell ⟨ag,1,none⟩ (.int .i64 pf)).setCell ⟨ag,2,none⟩ (.int .i64 pff)).setCell ⟨ag,3,none⟩ (.int .i64 pfl)).setCell ⟨ag,4,none⟩ (.bool pffar)).setCell ⟨ag,5,none⟩ (.int .i64 pfpc)).setCell ⟨ag,6,none⟩ (.slice B2 m2 d2)).setCell ⟨ag,7,none⟩ (.bool pover)) from by rw [HY.out.1,HY.out.2];exact OpErr.of (o:=⟨pkind,pf,⟨pff,pfl,pffar,pfpc⟩,ppath,pover⟩) RV gE.out BV);clear ap aa ab bI fR nB BV RV;go_wp2_with fail
    exact zAD rfl rfl rfl SV.out Tryz.underlying32 rfl (by kernel_rfl) rfl dz.out
theorem zKO {L:List Fg} {re lo:Int} {S:List UInt8} (hv:frB L re lo=true) (h:¬8000 < S.length):zAy L re lo S=0:=by unfold zAy;rw [if_pos hv,if_neg h]
theorem zKP {L:List Fg} {re lo:Int} {S:List UInt8} (hv:frB L re lo=true) (h:8000 < S.length):zAy L re lo S=7:=by unfold zAy;rw [if_pos hv,if_pos h]
theorem zWH {L:List Fg} {re lo:Int} {S:List UInt8} (hv:frB L re lo=true) (h:¬8000 < S.length):rdE L re lo S=zDe L S∧rdO L re lo S=zEt L S:=by
 have hb:=zKO hv h;unfold rdE rdO;rw [if_pos hb,if_pos hb];exact ⟨rfl,rfl⟩
theorem zWI {T:List (List UInt8)} {i:Nat} (h:i < T.length):T[i]? = some (xa T i):=by unfold xa;rw [List.getElem?_eq_getElem h];rfl
theorem zMd {T:List (List UInt8)} {i:Nat} (h:i < T.length):T.drop i=xa T i :: T.drop (i+1):=by
 rw [List.drop_eq_getElem_cons h];have:=zWI h;rw [List.getElem?_eq_getElem h] at this;injection this with this
 rw [this]
theorem zMe (L:List Fg) {T:List (List UInt8)} {i:Nat} (h:i+1 < T.length) (O:List Og) :
  zAQ L (T.drop i) O=if zDe L (xa T i)=0 then zAQ L (T.drop (i+1)) (O++[zEt L (xa T i)]) else ([],O.length,zDe L (xa T i)):=by
 rw [zMd (by omega),zMd h,zAQ]
theorem zMf (L:List Fg) {T:List (List UInt8)} {i:Nat} (h:i+1=T.length) (O:List Og) :
  zAQ L (T.drop i) O=if xa T i=[] then (O,O.length,0) else ([],O.length,6):=by
 rw [zMd (by omega),h,List.drop_length,zAQ]
theorem zXE {L:List Fg} {re lo:Int} {S:List UInt8} (hv:frB L re lo=true) (h:8000 < S.length):rsE L re lo S=7∧rsO L re lo S=[]:=by
 have hb:=zKP hv h;unfold rsE rsO;rw [if_neg (by omega),if_neg (by omega)];exact ⟨hb,rfl⟩
theorem zVj {L:List Fg} {re lo:Int} {S:List UInt8} (hv:frB L re lo=true) (h:8000 < S.length):rlR L re lo S=([],0,7):=by
 have hb:=zKP hv h;unfold rlR;rw [if_neg (by omega),hb]
theorem zSG {L:List Fg} {re lo:Int} {S:List UInt8} (hv:frB L re lo=true) (h:¬8000 < S.length):rlR L re lo S=zAQ L (zAR 10 S) []:=by
 have hb:=zKO hv h;unfold rlR;rw [if_pos hb]
theorem zSH (c:UInt8) (S:List UInt8):0 < (zAR c S).length:=by
 cases h:zAR c S with
 | nil=>exact absurd h (zFA c S)
 | cons x r=>simp
def zHR (L:List Fg) (Es:List Oe) (i:Nat):List UInt8:=zBD L ((ogs Es).take i)
theorem zOl (L:List Fg) {Es:List Oe} {i:Nat} (h:i < Es.length):zHR L Es (i+1)=zHR L Es i++zBb L (oa Es i).o++[10]:=by
 unfold zHR zBD;have hx:(ogs Es)[i]? = some (oa Es i).o:=by unfold ogs;rw [List.getElem?_map,zBn h];rfl
 rw [List.take_add_one,hx,List.flatMap_append];simp
theorem zQE (L:List Fg) (Es:List Oe):zHR L Es Es.length=zBD L (ogs Es):=by
 unfold zHR;rw [List.take_of_length_le (by unfold ogs;simp)]
theorem zOm (L:List Fg) (Es:List Oe):zHR L Es 0=[]:=by unfold zHR zBD;simp
end Go.Proofs.YtlmdfmnbcndhoaaGreatDoor
