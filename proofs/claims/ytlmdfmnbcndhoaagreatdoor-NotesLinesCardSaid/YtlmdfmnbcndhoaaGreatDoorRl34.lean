/-
  Lemmas, part 34. Conditions: each theorem's own.
-/
import Derived.Test.YtlmdfmnbcndhoaaGreatDoorRl33
import Derived.Test.YtlmdfmnbcndhoaaGreatDoorRl32
namespace Go.Proofs.YtlmdfmnbcndhoaaGreatDoor
open Go.RowKit
structure SgW (Y wr:World) (oB:Nat) (K:Int) (A:Option Addr) (n c:Nat) (M:List Lt):Prop where
 own:OwnL wr Y.heap.size A n c M
 bk:Blk wr oB 55 #[.int .i64 K,.slice A n c]
 far:∀q,blk A=some q→q≠oB
 old:Below Y.heap.size Y wr
section
variable {Y wr wx:World} {oB:Nat} {K:Int} {A:Option Addr} {n c:Nat} {M:List Lt}
theorem SgW.next (h:SgW Y wr oB K A n c M) (hb:Below wr.heap.size wr wx):SgW Y wx oB K A n c M:=⟨h.own.next hb,h.bk.below hb h.bk.lt,h.far,zAa h.old hb h.old.size⟩
theorem SgW.put {g o j:Nat} {x x':Lt} {u:Value} (h:SgW Y wr oB K (some ⟨g,o,none⟩) n c M) (hx:M[j]? = some x) (he:ltC x'=(ltC x).set 4 u) (hok:LtOk x') :
  SgW Y (wr.setCell ⟨g,o+(j*6+4),none⟩ u) oB K (some ⟨g,o,none⟩) n c (M.set j x') :=
 ⟨h.own.put hx (by omega) he hok rfl,h.bk.far (fun e=>h.far g rfl e.symm) u,h.far,h.old.setCell (p:=⟨g,o+(j*6+4),none⟩) (h.own.row.at_ _ rfl).2.1 u⟩
theorem SgW.free {g o j:Nat} (h:SgW Y wr oB K (some ⟨g,o,none⟩) n c M) (hj:j < n):wr.frozen? ⟨g,o+j*6+4,none⟩=false:=by
 have:=h.own.row.cap;have e:=h.own.row.free (j:=j*6+4) (by omega);rw [←Nat.add_assoc] at e;exact e
end
theorem zIp {a b c:World} {B:Nat} (h:Below B a b) (hg:b.grownBy c (blk none)) (hB:B≤b.heap.size):Below B a c:=h.grown hg hB (fun k hk=>by cases hk)
theorem zUL {A:Option Addr} {N M:Nat} (h:N < M) (hl:∀k,blk A=some k→blk none=some k∨M≤k):∀q,blk A=some q→q≠N:=fun q hq e=>by
 rcases hl q hq with h1 | h1
 ·cases h1
 ·omega
theorem zRU {Y w1:World} {K:Int} {A:Option Addr} {n c:Nat} {L:List Lt} (hown:OwnL w1 Y.heap.size A n c L) (hz:Blk w1 Y.heap.size 55 #[.int .i64 0,.slice none 0 0]) (hb:Below Y.heap.size Y w1) (hf:∀q,blk A=some q→q≠Y.heap.size) :
  ∃(X:World) (oB:Nat) (A1:Option Addr) (c1:Nat),X=(w1.setCell ⟨Y.heap.size,0,none⟩ (.int .i64 K)).setCell ⟨Y.heap.size,1,none⟩ (.slice A n c)∧Value.pointer (some ⟨Y.heap.size,0,none⟩)=.pointer (some ⟨oB,0,none⟩)∧Y.heap.size≤oB∧SgW Y X oB K A1 n c1 L:=by
 refine ⟨_,Y.heap.size,A,c,rfl,rfl,Nat.le_refl _,?_,(hz.set_ 0 _).set_ 1 _,hf,(hb.setCell (p:=⟨Y.heap.size,0,none⟩) (Nat.le_refl _) _).setCell (p:=⟨Y.heap.size,1,none⟩) (Nat.le_refl _) _⟩;have gS:=zAh (zAh (World.grownBy.refl w1 (some Y.heap.size)) (p:=⟨Y.heap.size,0,none⟩) (.inl rfl) (.int .i64 K)) (p:=⟨Y.heap.size,1,none⟩) (.inl rfl) (.slice A n c);refine ⟨hown.row.kept gS ?_,hown.fits,hown.le⟩
 cases hb:blk A with
 | none=>exact .inl rfl
 | some q=>exact .inr (by have:=hf q hb;simpa using this)
set_option maxHeartbeats 12800000 in
set_option maxRecDepth 100000 in
theorem zKA (K:Int) (B:Option Addr) (n d:Nat) (L:List Lt) (cr nu:Nat) (w:World) (hB:Lets w B n L) (hn:n≤1000000) (hcr:cr≤12) (hnu:nu < 4096) (hid:∀i,i < n→isC (la L i)=true→1≤(la L i).id∧(la L i).id≤cr) :
  Calls Tryz.prog 82 #[.agg #[.int .i64 K,.slice B n d],.int .i64 (cr:Int),.int .i64 (nu:Int)] w (zLS w K (zCE cr nu L)):=by
 have ah:Below w.heap.size w ((w.alloc (.cells #[.int .i64 K,.slice B n d] 55)).alloc (.cells #[.int .i64 0,.slice none 0 0] 55)):=((Below.refl _ _).alloc (Nat.le_refl _) _).alloc (by simp) _;have hk0:Blk ((w.alloc (.cells #[.int .i64 K,.slice B n d] 55)).alloc (.cells #[.int .i64 0,.slice none 0 0] 55)) w.heap.size 55 #[.int .i64 K,.slice B n d]:=(Blk.new w _ _).alloc _;have aq:Blk ((w.alloc (.cells #[.int .i64 K,.slice B n d] 55)).alloc (.cells #[.int .i64 0,.slice none 0 0] 55)) (w.heap.size+1) 55 #[.int .i64 0,.slice none 0 0]:=heap_alloc2_new w _ _;have aR:=qH hB.len;have HB:=qH hB;have DH:=qH hid;clear hid hB;go_enter Tryz.func82,Tryz.ntmps82;go_upto_region 1 with fail
 generalize ((w.alloc (.cells #[.int .i64 K,.slice B n d] 55)).alloc (.cells #[.int .i64 0,.slice none 0 0] 55))=Y at ah hk0 aq ⊢;obtain ⟨f0,f1⟩:=cQ2 hk0;have Fy:Lets Y B n L:=HB.out.below ah;have KP:=qH (fun wx (h:Below Y.heap.size Y wx)=>(show wx.cell? ⟨w.heap.size,0,none⟩=some (.int .i64 K)∧wx.cell? ⟨w.heap.size,1,none⟩=some (.slice B n d) from ⟨((hk0.below h hk0.lt).cell 0).trans rfl,((hk0.below h hk0.lt).cell 1).trans rfl⟩));have zV:n≤2932031007402:=by omega
 have kz:Below Y.heap.size Y (Y.alloc (.cells #[.int .i64 0,.slice none 0 0] 55)):=(Below.refl _ _).alloc (Nat.le_refl _) _;have Bs:Blk (Y.alloc (.cells #[.int .i64 0,.slice none 0 0] 55)) Y.heap.size 55 #[.int .i64 0,.slice none 0 0]:=Blk.new _ _ _;have Ef:(Y.alloc (.cells #[.int .i64 0,.slice none 0 0] 55)).cell? ⟨w.heap.size,0,none⟩=some (.int .i64 K):=(KP.out _ kz).1;have Ee:(Y.alloc (.cells #[.int .i64 0,.slice none 0 0] 55)).cell? ⟨w.heap.size,1,none⟩=some (.slice B n d):=(KP.out _ kz).2;go_cut [7] (fun v7 wv=>∃(X:World) (oB:Nat) (A1:Option Addr) (c1:Nat),X=wv∧v7=.pointer (some ⟨oB,0,none⟩)∧Y.heap.size≤oB∧SgW Y X oB K A1 n c1 (zHF cr nu L 0))
 case first =>
  go_region_law (first
   | ((refine zWh (base:=Y.heap.size) (A:=none) (n:=0) (c:=0) (L:=[]) (m:=n) (d:=d) (M:=L) rfl (.const (.slice none 0 0)) (.tmp 13) (by rfl) (by rfl) (by rfl) (OwnL.nil _ _) (by first | exact Fy.below (Below.refl _ _).drew | exact Fy.below kz.drew) n (by omega) zV (by first | exact Nat.le_refl _ | exact kz.size) ?_)
      intro A1 c1 w1 hown1 et iD
      have tG:Below Y.heap.size Y w1:=(by first | exact zIp (Below.refl Y.heap.size Y).drew et (Nat.le_refl _) | exact zIp kz.drew et kz.size)
      obtain ⟨u0,u1⟩:=KP.out _ tG
      obtain ⟨u2,u3⟩:=KP.out _ (tG.alloc tG.size (.cells #[.int .i64 0,.slice none 0 0] 55))
      try have wV:=Bs.drew.grown et (by simp [blk])
      try have y0:w1.cell? ⟨Y.heap.size,0,none⟩=some (.int .i64 0):=(wV.cell 0).trans rfl
      try have y1:w1.cell? ⟨Y.heap.size,1,none⟩=some (.slice none 0 0):=(wV.cell 1).trans rfl
      try have jR:=wV.frozen 0
      try have jQ:=wV.frozen 1
      try have hfar:=zUL Bs.lt iD))
  all_goals
   rw [List.nil_append] at hown1;clear u0 u1 u2 u3 KP f0 f1 Ef Ee;go_wp2_with fail
   go_meet
   case rel =>
    rw [zPY]
    first
     | exact ⟨_,w1.heap.size,A1,c1,rfl,rfl,tG.size,hown1.alloc _,Blk.new _ _ _,fun q hq=>Nat.ne_of_lt (hown1.row.lt q hq).2,tG.alloc tG.size _⟩
     | exact zRU hown1 wV tG hfar
 case rest =>
  obtain ⟨Z,oB,A1,c1,hZ,rfl,hoY,ce⟩:=hcut;subst hZ;clear Bs Ef Ee kz KP f0 f1;have g1:Z.cell? ⟨oB,1,none⟩=some (.slice A1 n c1):=(ce.bk.cell 1).trans rfl;go_wp2_with fail
  clear g1;go_loopw [19] (fun nT wv=>∃(i:Nat) (X:World),X=wv∧i≤n∧nT=.int .i64 i∧SgW Y X oB K A1 n c1 (zHF cr nu L i)) (fun nT _=>n-(intOf nT).toNat)
  case atStart=>exact ⟨0,_,rfl,by omega,rfl,ce⟩
  case round =>
   obtain ⟨i,X,hX,hi,rfl,hW⟩:=hrel;subst hX;clear ce;by_cases hlt:i < n
   ·have j0:(0:Int)≤(i:Int):=by omega
    have j1:(i:Int) < (n:Int):=by omega
    have hil:i < L.length:=by rw [aR.out];exact hlt
    have hgi:=zPZ (cr:=cr) (nu:=nu) hil;have hll:la (zHF cr nu L i) i=la L i:=zQR hgi;obtain ⟨g,o,rfl,hgl,hat,hok⟩:=hW.own.lets.at_ hlt;rw [hll] at hat hok;obtain ⟨l,hle⟩:∃l,la L i=l:=⟨_,rfl⟩
    rw [hle] at hat hok hgi;obtain ⟨x0,x1,x2,x3,x4,x5⟩:=hat;have hbl:=(Below.refl X.heap.size X).alloc (Nat.le_refl _) (.cells #[.int .i64 l.kind,.int .i64 l.gate,.int .i64 l.rank,.int .i64 l.id,.int .i64 l.sign,.bool l.over] 76);have ck:Blk (X.alloc (.cells #[.int .i64 l.kind,.int .i64 l.gate,.int .i64 l.rank,.int .i64 l.id,.int .i64 l.sign,.bool l.over] 76)) X.heap.size 76 #[.int .i64 l.kind,.int .i64 l.gate,.int .i64 l.rank,.int .i64 l.id,.int .i64 l.sign,.bool l.over]:=Blk.new _ _ _;have cS:=hW.next hbl;have fK:g < X.heap.size:=hgl;have DG:=qH (DH.out i hlt);clear hW hbl hll;by_cases hk2:l.kind=2
    ·have q2:(l.kind != 2)=false:=by simpa using hk2
     have um:isC (la L i)=true:=by rw [hle];exact zQS hk2
     have hid:=DG.out um;rw [hle] at hid;obtain ⟨k,hk⟩:∃k:Nat,(cr:Int)-l.id=(k:Int):=⟨((cr:Int)-l.id).toNat,by omega⟩
     have hk12:k≤12:=by omega
     have hkk:cr-l.id.toNat=k:=by omega
     obtain ⟨q,hq⟩:∃q,nu >>> k=q:=⟨_,rfl⟩
     have hq4:q < 4096:=by rw [←hq];exact Nat.lt_of_le_of_lt (Nat.shiftRight_le _ _) hnu
     have hdiv:(nu:Int) / 2 ^ k=(q:Int):=by rw [←hq,Nat.shiftRight_eq_div_pow];simp
     have hand:=zQb q hq4;have hwr:wrap64 ((cr:Int)-l.id)=(k:Int):=by rw [hk];unfold wrap64;omega
     have hokm:∀s,s=1∨s = -1→LtOk { l with sign:=s }:=fun s hs=>⟨hok.kind,hok.gate,hok.rank,hok.id,⟨by simp only;omega,by simp only;omega⟩⟩
     have yW:=qH (show sgL cr nu (la L i)={ l with sign:=if q % 2=1 then 1 else -1 } by
      unfold sgL sgI
      rw [um,if_pos rfl,hle,hkk,hq])
     have yX:=qH (zMQ (cr:=cr) (nu:=nu) hil);have hi1:i+1≤n:=hlt;have zf:=qH hgi;have gw:=qH hokm;clear hk2 um hid hle hk hkk hq hokm hgi hok;go_upto_region 6 with fail
     clear x0 x1 x2 x3 x5;generalize X.alloc (.cells #[.int .i64 l.kind,.int .i64 l.gate,.int .i64 l.rank,.int .i64 l.id,.int .i64 l.sign,.bool l.over] 76)=X1 at ck cS ⊢;generalize X.heap.size=a9 at ck fK ⊢;have uD:=(cS.own.lets.also (k:=i) hlt).1;have xD:la (zHF cr nu L i) i=l:=zQR zf.out;rw [xD] at uD;have c1:X1.cell? ⟨oB,1,none⟩=some (.slice (some ⟨g,o,none⟩) n c1):=(cS.bk.cell 1).trans rfl;have s4:X1.cell? ⟨g,o+i*6+4,none⟩=some (.int .i64 l.sign):=uD.sign;have z4:=cS.free hlt;have cA:=cS.put (x':={ l with sign:=-1 }) (u:=.int .i64 (-1)) zf.out rfl (gw.out _ (.inr rfl));have dc:=ck.far (p:=⟨g,o+(i*6+4),none⟩) (by simp only;omega) (.int .i64 (-1));clear uD xD cS ck;go_upto_region 7 with fail
     clear c1 s4 z4 x4;generalize X1.setCell ⟨g,o+i*6+4,none⟩ (.int .i64 (-1))=X2 at *
     change SgW Y X2 oB K (some ⟨g,o,none⟩) n c1 _ at cA
     change Blk X2 a9 _ _ at dc
     have e3:X2.cell? ⟨a9,3,none⟩=some (.int .i64 l.id):=(dc.cell 3).trans rfl;have eh:((zHF cr nu L i).set i { l with sign:=-1 })[i]? = some { l with sign:=-1 }:=by rw [List.getElem?_set_self (by rw [zJq _ _ _ (Nat.le_of_lt hil)];exact hil)]
     by_cases hb:q % 2=1
     ·have r1:(((q % 2:Nat):Int)==1)=true:=by rw [hb];rfl
      have c1:X2.cell? ⟨oB,1,none⟩=some (.slice (some ⟨g,o,none⟩) n c1):=(cA.bk.cell 1).trans rfl;have uC:=(cA.own.lets.also (k:=i) hlt).1;rw [show la ((zHF cr nu L i).set i { l with sign:=-1 }) i={ l with sign:=-1 } from zQR eh] at uC;have s4:X2.cell? ⟨g,o+i*6+4,none⟩=some (.int .i64 (-1)):=uC.sign;have z4:=cA.free hlt;have dx:=cA.put (x':={ l with sign:=1 }) (u:=.int .i64 1) eh rfl (gw.out _ (.inl rfl));rw [List.set_set,show ({ l with sign:=1 }:Lt)=sgL cr nu (la L i) by rw [yW.out,if_pos hb],yX.out] at dx;have td:=qH dx;clear uC cA dx dc eh hb;go_wp2_with fail
      go_roundw
      case rel=>exact ⟨i+1,_,rfl,hi1,by go_num,td.out⟩
      case measure=>simp [intOf];omega
     ·have ah:q % 2=0:=by omega
      have r1:(((q % 2:Nat):Int)==1)=false:=by rw [ah];rfl
      rw [show ({ l with sign:=-1 }:Lt)=sgL cr nu (la L i) by rw [yW.out,if_neg hb],yX.out] at cA;clear dc eh hb ah;go_wp2_with fail
      go_roundw
      case rel=>exact ⟨i+1,_,rfl,hi1,by go_num,cA⟩
      case measure=>simp [intOf];omega
    ·have q2:(l.kind != 2)=true:=by simpa using hk2
     have hs:zHF cr nu L (i+1)=zHF cr nu L i:=zQa hil (by unfold sgL;rw [hle,zQT hk2];rfl);rw [←hs] at cS;clear hk2 hle hs ck hgi hok;go_wp2_with fail
     go_roundw
     case rel=>exact ⟨i+1,_,rfl,by omega,by go_num,cS⟩
     case measure=>simp [intOf];omega
   ·have j1:¬(i:Int) < (n:Int):=by omega
    have hin:i=L.length:=by rw [aR.out];omega
    rw [hin,zRT] at hW;have uI:w.heap.size+1 < Y.heap.size:=aq.lt;have ft:=aq.below hW.old uI;have e0:X.cell? ⟨oB,0,none⟩=some (.int .i64 K):=(hW.bk.cell 0).trans rfl;have e1:X.cell? ⟨oB,1,none⟩=some (.slice A1 n c1):=(hW.bk.cell 1).trans rfl;obtain ⟨r0,r1⟩:=cQ2 ft;have z0:=ft.frozen 0;have z1:=ft.frozen 1;have vp:=qH ft;have HW:=qH hW;have nD:=ah.size;clear hin hlt hW ft;go_wp2_with fail
    have hS:Blk ((X.setCell ⟨w.heap.size+1,0,none⟩ (.int .i64 K)).setCell ⟨w.heap.size+1,1,none⟩ (.slice A1 n c1)) (w.heap.size+1) 55 #[.int .i64 K,.slice A1 n c1]:=(vp.out.set_ 0 _).set_ 1 _;have gS:=zAh (zAh (World.grownBy.refl X (some (w.heap.size+1))) (p:=⟨w.heap.size+1,0,none⟩) (.inl rfl) (.int .i64 K)) (p:=⟨w.heap.size+1,1,none⟩) (.inl rfl) (.slice A1 n c1);have gA:=((zAa ah HW.out.old nD).setCell (p:=⟨w.heap.size+1,0,none⟩) (by simp) (.int .i64 K)).setCell (p:=⟨w.heap.size+1,1,none⟩) (by simp) (.slice A1 n c1);have uK:OwnL ((X.setCell ⟨w.heap.size+1,0,none⟩ (.int .i64 K)).setCell ⟨w.heap.size+1,1,none⟩ (.slice A1 n c1)) w.heap.size A1 n c1 (zCE cr nu L):=by
     refine ⟨(HW.out.own.row.kept gS ?_).mono nD,HW.out.own.fits,HW.out.own.le⟩
     cases hb:blk A1 with
     | none=>exact .inl rfl
     | some q=>exact .inr (by have:=(HW.out.own.row.lt q hb).1;simp;omega)
    (try simp only [Exit.inBlock,Exit.then])
    refine zAu rfl rfl hS Tryz.underlying55 rfl (by kernel_rfl) rfl ?_;exact ⟨A1,n,c1,rfl,uK,gA⟩
structure It where
 fg:Option Fg
 n:Int
 b:Bool
def okI (t:It):Prop:=(∀f,t.fg=some f→zAl f=true)∧1≤t.n∧t.n≤999999999
def itW (t:It):List UInt8:=match t.fg with
 | some f=>zAi f++46 :: Lib.itoa t.n++[if t.b then 62 else 60]
 | none=>Lib.itoa t.n++[if t.b then 111 else 117]
def btI (L:List Fg) (t:It):Bi:=match t.fg with
 | some f=>⟨if zAK L f=0 then -1 else (zAK L f:Int),t.n,t.b⟩
 | none=>⟨0,t.n,t.b⟩
def zNU (L:List Fg) (t:It):Bool:=match t.fg with
 | some f=>zAX L f
 | none=>false
theorem zQc (f:Fg):(46:UInt8) ∉ zAi f:=fun hb=>by
 unfold zAi at hb;have h1:∀x:Int,(46:UInt8) ∉ Lib.itoa x:=fun x=>zMn (by decide)
 rcases List.mem_append.1 hb with h | h
 ·split at h
  ·simp at h
  ·exact h1 _ h
 ·rcases List.mem_cons.1 h with h | h
  ·split at h<;>cases h
  ·exact h1 _ h
theorem zKB (A:List UInt8) (c:UInt8):zGC (A++[c])=Lib.cut A [46]:=by unfold zGC;rw [List.dropLast_concat]
theorem zDW (A:List UInt8) (c d:UInt8):zBJ (A++[c]) d=decide (c=d):=by unfold zBJ;simp
theorem zMR (L:List Fg) {t:It} (h:okI t):zMN L (itW t)=btI L t∧zNP (itW t)=false∧zTe (itW t)=t.fg.isNone∧zUG L (itW t)=zNU L t:=by
 obtain ⟨fg,n,b⟩:=t;obtain ⟨h1,h2,h3⟩:=h;have hc:=zFC h2 h3;simp only at hc h1
 cases fg with
 | none =>
  have hcut:zGC (Lib.itoa n++[if b then 111 else 117])=(Lib.itoa n,[],false):=by rw [zKB];exact zOG (zMn (by decide))
  simp only [itW,btI,zNU];unfold zMN zNP zTe zUG;rw [hcut];simp only [List.dropLast_concat,hc,zDW]
  cases b<;>exact ⟨rfl,rfl,rfl,rfl⟩
 | some f =>
  have hf:=h1 f rfl;have hcut:zGC (zAi f++46 :: Lib.itoa n++[if b then 62 else 60])=(zAi f,Lib.itoa n,true):=by rw [zKB];exact zOF (zQc f)
  have hp:=zCm hf rfl;simp only [itW,btI,zNU];unfold zMN zNP zTe zUG zDj zKh zEk;rw [hcut];simp only [hp,hc,zDW]
  cases b<;>exact ⟨rfl,rfl,rfl,rfl⟩
theorem zFU {x:List UInt8} {c:UInt8} (h:zBJ x c=true):x=x.dropLast++[c]:=by
 unfold zBJ at h;rw [decide_eq_true_eq] at h;obtain ⟨C,rfl⟩:=List.getLast?_eq_some_iff.1 h;rw [List.dropLast_concat]
theorem zUM {S:List UInt8} {c:UInt8} (h:(Lib.cut S [c]).2.2=true):S=(Lib.cut S [c]).1++c :: (Lib.cut S [c]).2.1∧c ∉ (Lib.cut S [c]).1:=by
 by_cases hc:c∈S
 ·obtain ⟨a,r,rfl,ha⟩:=zJe hc;rw [zOF ha];exact ⟨rfl,ha⟩
 ·rw [zOG hc] at h;cases h
theorem zQd {x:List UInt8} (h:zNP x=false):∃t,okI t∧x=itW t:=by
 unfold zNP at h
 cases hc:(zGC x).2.2 with
 | true =>
  rw [hc,if_pos rfl] at h;simp only [Bool.or_eq_false_iff,Bool.not_eq_false',Bool.or_eq_true] at h;obtain ⟨⟨h1,h2⟩,h3⟩:=h;obtain ⟨v,hv⟩:∃v,zAq (zGC x).2.1=(v,true):=⟨(zAq (zGC x).2.1).1,by rw [←h3]⟩
  obtain ⟨e1,e2,e3⟩:=zCn hv;obtain ⟨f,hf⟩:∃f,zGb (zGC x).1=some f:=by
   unfold zKh at h1
   cases hp:zGb (zGC x).1 with
   | none=>rw [hp] at h1;cases h1
   | some f=>exact ⟨f,rfl⟩
  obtain ⟨k1,k2⟩:=zLq hf;have hx:=(zUM hc).1;rw [show (Lib.cut x.dropLast [46]).1=(zGC x).1 from rfl,show (Lib.cut x.dropLast [46]).2.1=(zGC x).2.1 from rfl,←k2,e1] at hx;refine ⟨⟨some f,v,zBJ x 62⟩,⟨fun g hg=>(by injection hg with hg;subst hg;exact k1),e2,e3⟩,?_⟩;simp only [itW];rcases h2 with h2 | h2
  ·rw [h2,if_pos rfl,←hx];exact zFU h2
  ·have hne:zBJ x 62=false:=by
    have:=zFU h2;rw [this,zDW];rfl
   rw [hne,←hx];exact zFU h2
 | false =>
  rw [hc,if_neg (by simp)] at h;simp only [Bool.or_eq_false_iff,Bool.not_eq_false',Bool.or_eq_true] at h;obtain ⟨h2,h3⟩:=h;obtain ⟨v,hv⟩:∃v,zAq x.dropLast=(v,true):=⟨(zAq x.dropLast).1,by rw [←h3]⟩
  obtain ⟨e1,e2,e3⟩:=zCn hv;refine ⟨⟨none,v,zBJ x 111⟩,⟨fun g hg=>(by cases hg),e2,e3⟩,?_⟩;simp only [itW];rcases h2 with h2 | h2
  ·rw [h2,if_pos rfl,←e1];exact zFU h2
  ·have hne:zBJ x 111=false:=by
    have:=zFU h2;rw [this,zDW];rfl
   rw [hne,←e1];exact zFU h2
theorem zQe (L:List Fg) {T:List It} (h:∀t∈T,okI t):(T.map itW).map (zMN L)=T.map (btI L)∧zFP L (T.map itW)=T.any (zNU L)∧zEq (T.map itW)=(match T.head? with | some t=>t.fg.isNone | none=>false):=by
 refine ⟨?_,?_,?_⟩
 ·rw [List.map_map];exact List.map_congr_left fun t ht=>(zMR L (h t ht)).1
 ·unfold zFP;rw [List.any_map]
  induction T with
  | nil=>rfl
  | cons t T ih =>
   rw [List.any_cons,List.any_cons,ih fun t ht=>h t (List.mem_cons_of_mem _ ht)];simp only [Function.comp];rw [(zMR L (h t (List.mem_cons_self ..))).2.2.2]
 ·have h1:(T.map itW).any zNP=false:=by
   rw [List.any_eq_false];intro x hx;obtain ⟨t,ht,rfl⟩:=List.mem_map.1 hx;rw [(zMR L (h t ht)).2.1];simp
  unfold zEq;rw [h1,Bool.false_or]
  cases T with
  | nil=>rfl
  | cons t T=>exact (zMR L (h t (List.mem_cons_self ..))).2.2.1
theorem zNV {W:List (List UInt8)} (h:zEq W=false):∃T:List It,(∀t∈T,okI t)∧W=T.map itW:=by
 unfold zEq at h;rw [Bool.or_eq_false_iff] at h;have h1:=h.1;clear h
 induction W with
 | nil=>exact ⟨[],by simp,rfl⟩
 | cons x W ih =>
  rw [List.any_cons,Bool.or_eq_false_iff] at h1;obtain ⟨t,ht,rfl⟩:=zQd h1.1;obtain ⟨T,hT,rfl⟩:=ih h1.2
  exact ⟨t :: T,fun s hs=>by
   rcases List.mem_cons.1 hs with rfl | hs
   ·exact ht
   ·exact hT s hs,rfl⟩
theorem zRV (t:It):(32:UInt8) ∉ itW t:=fun hb=>by
 obtain ⟨fg,n,b⟩:=t;have h1:=(zEM n).no32
 cases fg with
 | none =>
  simp only [itW] at hb;rcases List.mem_append.1 hb with h | h
  ·exact h1 h
  ·cases b<;>simp at h
 | some f =>
  simp only [itW] at hb;rcases List.mem_append.1 hb with h | h
  ·rcases List.mem_append.1 h with h | h
   ·exact (zCO f).no32 h
   ·rcases List.mem_cons.1 h with h | h
    ·cases h
    ·exact h1 h
  ·cases b<;>simp at h
theorem zNW {T:List It} (h:T≠[]):zAR 32 (Lib.join (T.map itW) [32])=T.map itW :=
 zEJ (by simpa using h) fun p hp=>by
  obtain ⟨t,_,rfl⟩:=List.mem_map.1 hp;exact zRV t
def zTi (b:Bi):List Value:=[.int .i64 b.f,.int .i64 b.n,.bool b.b]
structure BiOk (b:Bi):Prop where
 f:I64 b.f
 n:I64 b.n
structure BiAt (w:World) (g o:Nat) (x:Bi):Prop where
 f:w.cell? ⟨g,o,none⟩=some (.int .i64 x.f)
 n:w.cell? ⟨g,o+1,none⟩=some (.int .i64 x.n)
 b:w.cell? ⟨g,o+2,none⟩=some (.bool x.b)
def Bits (w:World) (A:Option Addr) (n:Nat) (l:List Bi):Prop:=Els 3 zTi w A n l∧∀x∈l,BiOk x
section
variable {w w':World} {A:Option Addr} {n:Nat} {l:List Bi}
theorem Bits.len (h:Bits w A n l):l.length=n:=h.1.1
theorem Bits.below (h:Bits w A n l) (hb:Below w.heap.size w w'):Bits w' A n l:=⟨h.1.below hb,h.2⟩
theorem Bits.at_ {k:Nat} (h:Bits w A n l) (hk:k < n):∃g o,A=some ⟨g,o,none⟩∧g < w.heap.size∧BiAt w g (o+k*3) (ba l k)∧BiOk (ba l k):=by
 obtain ⟨g,o,e,hb,hc⟩:=h.1.2.2 (by omega);have hx:l[k]? = some (ba l k):=zMM (by rw [h.len];exact hk);refine ⟨g,o,e,hb,⟨hc k _ hx 0 _ rfl,hc k _ hx 1 _ rfl,hc k _ hx 2 _ rfl⟩,h.2 _ (List.mem_of_getElem? hx)⟩
end
theorem zWi:(Tryz.prog.info? 174).map (fun i=>(i.zero,i.size,i.bytes))=some (some (.agg #[.int .i64 0,.int .i64 0,.bool false]),3,24):=by kernel_rfl
theorem zXp {w:World} {ops:Array Oper} {rest:List Oper} {o:Oper} {a:Act} {Q:Exit→Act→World→Prop} (hgd:o.guard=none) (s x:Operand)
  (ho:o.op=.call { callee:=.builtin .append,args:=#[s,x],argTypes:=#[124,124] })
  {base:Nat} {A:Option Addr} {n c:Nat} {P:List Bi} (hst:Row w base 3 A n c (P.flatMap zTi)) (y:Bi)
  (hs:a.eval s=.slice A n c) (hx:a.eval x=.slice (some ⟨w.heap.size,0,none⟩) 1 1) (N:Nat) (hN:n+1=N) (hn:N≤1000000) (hbase:base≤w.heap.size)
  (h:∀A' c' w',Row w' base 3 A' N c' ((P++[y]).flatMap zTi)→w.grownBy w' (blk A)→(∀k,blk A'=some k→blk A=some k∨w.heap.size≤k)→wpList Tryz.prog ops Q rest (a.put o.dst (.slice A' N c')) w') :
  wpList Tryz.prog ops Q (o :: rest) a (w.alloc (.cells #[.int .i64 y.f,.int .i64 y.n,.bool y.b] 174)):=by
 obtain ⟨i0,hi,ci,be,cH⟩:=info_parts zWi;have hbl:=(Below.refl w.heap.size w).alloc (Nat.le_refl _) (.cells #[.int .i64 y.f,.int .i64 y.n,.bool y.b] 174);have cE:=hst.below hbl
 refine zQL hgd s x 124 ho 174 i0 _ 3 24 Tryz.underlying124 hi ci be cH rfl (by decide) cE (Src.new (m:=1) (cs:=zTi y) rfl)
  (by intro u hu;simp [zTi] at hu;rcases hu with rfl | rfl | rfl<;>rfl) hs hx N hN (by unfold maxLen;omega) (by omega) (by simp;omega) ?_
 intro A' c' w' h1 h2 h3 _;refine h A' c' w' (by rw [List.flatMap_append];simpa using h1) ?_ (fun k hk=>?_)
 ·exact zAb (zAz hbl) h2
 ·rcases h3 k hk with e | e
  ·exact .inl e
  ·exact .inr (by simp at e;omega)
def zQf (x:List UInt8):List UInt8:=match x.getLast? with
 | some c=>[c]
 | none=>[]
theorem zQg (S:List UInt8) (c:UInt8):zQf (S++[c])=[c]:=by unfold zQf;simp
theorem zJr (x:List UInt8) (c:UInt8):(zQf x==[c])=zBJ x c:=by
 unfold zQf zBJ
 cases x.getLast? with
 | none=>simp
 | some d=>by_cases h:d=c<;>simp [h]
theorem zRW (S:List UInt8) (c:UInt8) (w:World):(Instr.slice 9 (.string (bA (S++[c]))) none (some (.int .i64 (S.length:Int))) none).run Tryz.prog w=.ok (.string (bA S)) w:=by
 rw [run_slice_string_h w 9 (bA (S++[c])) Tryz.underlying9 .i64 (S.length:Int) (by omega) (by rw [zAL];simp;omega),zBN];simp
theorem zRX (S:List UInt8) (c:UInt8) (w:World):(Instr.slice 9 (.string (bA (S++[c]))) (some (.int .i64 (S.length:Int))) none none).run Tryz.prog w=.ok (.string (bA [c])) w:=by
 rw [run_slice_string_l w 9 (bA (S++[c])) Tryz.underlying9 .i64 (S.length:Int) (by omega) (by rw [zAL];simp;omega),zBN,zAL,List.take_of_length_le (Nat.le_refl _)];simp
theorem zUN (s:List UInt8) (hs:s.length≤100000) (w:World) (ht:Tabs w) :
  Calls Tryz.prog 62 #[.string (bA s),.string ⟨#[46]⟩] w fun e w'=>e=.returned (.tuple #[.string (bA (Lib.cut s [46]).1),.string (bA (Lib.cut s [46]).2.1),.bool (Lib.cut s [46]).2.2])∧Below w.heap.size w w':=by
 obtain ⟨m,hm⟩:=ht.most;have h:=Tryz.strings_Cut (bA s) (bA [46]) m w (by rw [zAL];omega) hm;rw [zDq,zDq] at h;refine h.mono ?_;rintro e w' ⟨rfl,n,rfl⟩;exact ⟨rfl,zAf (Below.refl _ _) n⟩
end Go.Proofs.YtlmdfmnbcndhoaaGreatDoor
