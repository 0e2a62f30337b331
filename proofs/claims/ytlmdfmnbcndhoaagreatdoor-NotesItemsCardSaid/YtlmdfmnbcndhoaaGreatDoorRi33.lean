/-
  Lemmas, part 33. Conditions: each theorem's own.
-/
import Derived.Test.YtlmdfmnbcndhoaaGreatDoorRi32
import Derived.Test.YtlmdfmnbcndhoaaGreatDoorRi31
namespace Go.Proofs.YtlmdfmnbcndhoaaGreatDoor
open Go.RowKit
structure SgW (Y wr:World) (oB:Nat) (K:Int) (A:Option Addr) (n c:Nat) (M:List Lt):Prop where
 own:OwnL wr Y.heap.size A n c M
 bk:Blk wr oB 55 #[.int .i64 K,.slice A n c]
 far:∀q,blk A=some q→q≠oB
 old:Below Y.heap.size Y wr
section
variable {Y wr wx:World} {oB:Nat} {K:Int} {A:Option Addr} {n c:Nat} {M:List Lt}
theorem SgW.next (h:SgW Y wr oB K A n c M) (hb:Below wr.heap.size wr wx):SgW Y wx oB K A n c M:=⟨h.own.next hb,h.bk.below hb h.bk.lt,h.far,zAa h.old hb h.old.size⟩
theorem SgW.put {g o j:Nat} {x x':Lt} {u:Value} (h:SgW Y wr oB K (some ⟨g,o,none⟩) n c M) (hx:M[j]? = some x) (he:ltC x'=(ltC x).set 4 u) (hok:LtOk x') :
  SgW Y (wr.setCell ⟨g,o+(j*6+4),none⟩ u) oB K (some ⟨g,o,none⟩) n c (M.set j x') :=
 ⟨h.own.put hx (by omega) he hok rfl,h.bk.far (fun e=>h.far g rfl e.symm) u,h.far,h.old.setCell (p:=⟨g,o+(j*6+4),none⟩) (h.own.row.at_ _ rfl).2.1 u⟩
theorem SgW.free {g o j:Nat} (h:SgW Y wr oB K (some ⟨g,o,none⟩) n c M) (hj:j < n):wr.frozen? ⟨g,o+j*6+4,none⟩=false:=by
 have:=h.own.row.cap;have e:=h.own.row.free (j:=j*6+4) (by omega);rw [←Nat.add_assoc] at e;exact e
end
theorem zIe {a b c:World} {B:Nat} (h:Below B a b) (hg:b.grownBy c (blk none)) (hB:B≤b.heap.size):Below B a c:=h.grown hg hB (fun k hk=>by cases hk)
theorem zTZ {A:Option Addr} {N M:Nat} (h:N < M) (hl:∀k,blk A=some k→blk none=some k∨M≤k):∀q,blk A=some q→q≠N:=fun q hq e=>by
 rcases hl q hq with h1 | h1
 ·cases h1
 ·omega
theorem zRr {Y w1:World} {K:Int} {A:Option Addr} {n c:Nat} {L:List Lt} (hown:OwnL w1 Y.heap.size A n c L) (hz:Blk w1 Y.heap.size 55 #[.int .i64 0,.slice none 0 0]) (hb:Below Y.heap.size Y w1) (hf:∀q,blk A=some q→q≠Y.heap.size) :
  ∃(X:World) (oB:Nat) (A1:Option Addr) (c1:Nat),X=(w1.setCell ⟨Y.heap.size,0,none⟩ (.int .i64 K)).setCell ⟨Y.heap.size,1,none⟩ (.slice A n c)∧Value.pointer (some ⟨Y.heap.size,0,none⟩)=.pointer (some ⟨oB,0,none⟩)∧Y.heap.size≤oB∧SgW Y X oB K A1 n c1 L:=by
 refine ⟨_,Y.heap.size,A,c,rfl,rfl,Nat.le_refl _,?_,(hz.set_ 0 _).set_ 1 _,hf,(hb.setCell (p:=⟨Y.heap.size,0,none⟩) (Nat.le_refl _) _).setCell (p:=⟨Y.heap.size,1,none⟩) (Nat.le_refl _) _⟩;have gS:=zAg (zAg (World.grownBy.refl w1 (some Y.heap.size)) (p:=⟨Y.heap.size,0,none⟩) (.inl rfl) (.int .i64 K)) (p:=⟨Y.heap.size,1,none⟩) (.inl rfl) (.slice A n c);refine ⟨hown.row.kept gS ?_,hown.fits,hown.le⟩
 cases hb:blk A with
 | none=>exact .inl rfl
 | some q=>exact .inr (by have:=hf q hb;simpa using this)
set_option maxHeartbeats 12800000 in
set_option maxRecDepth 100000 in
theorem zKi (K:Int) (B:Option Addr) (n d:Nat) (L:List Lt) (cr nu:Nat) (w:World) (hB:Lets w B n L) (hn:n≤1000000) (hcr:cr≤12) (hnu:nu < 4096) (hid:∀i,i < n→isC (la L i)=true→1≤(la L i).id∧(la L i).id≤cr) :
  Calls Tryz.prog 82 #[.agg #[.int .i64 K,.slice B n d],.int .i64 (cr:Int),.int .i64 (nu:Int)] w (zLu w K (zCB cr nu L)):=by
 have hb0:Below w.heap.size w ((w.alloc (.cells #[.int .i64 K,.slice B n d] 55)).alloc (.cells #[.int .i64 0,.slice none 0 0] 55)):=((Below.refl _ _).alloc (Nat.le_refl _) _).alloc (by simp) _;have hk0:Blk ((w.alloc (.cells #[.int .i64 K,.slice B n d] 55)).alloc (.cells #[.int .i64 0,.slice none 0 0] 55)) w.heap.size 55 #[.int .i64 K,.slice B n d]:=(Blk.new w _ _).alloc _;have hk1:Blk ((w.alloc (.cells #[.int .i64 K,.slice B n d] 55)).alloc (.cells #[.int .i64 0,.slice none 0 0] 55)) (w.heap.size+1) 55 #[.int .i64 0,.slice none 0 0]:=heap_alloc2_new w _ _;have HLN:=qH hB.len;have HB:=qH hB;have HID:=qH hid;clear hid hB;go_enter Tryz.func82,Tryz.ntmps82;go_upto_region 1 with fail
 generalize ((w.alloc (.cells #[.int .i64 K,.slice B n d] 55)).alloc (.cells #[.int .i64 0,.slice none 0 0] 55))=Y at hb0 hk0 hk1 ⊢;obtain ⟨f0,f1⟩:=cQ2 hk0;have hBY:Lets Y B n L:=HB.out.below hb0;have KP:=qH (fun wx (h:Below Y.heap.size Y wx)=>(show wx.cell? ⟨w.heap.size,0,none⟩=some (.int .i64 K)∧wx.cell? ⟨w.heap.size,1,none⟩=some (.slice B n d) from ⟨((hk0.below h hk0.lt).cell 0).trans rfl,((hk0.below h hk0.lt).cell 1).trans rfl⟩));have hn2:n≤2932031007402:=by omega
 have hbz0:Below Y.heap.size Y (Y.alloc (.cells #[.int .i64 0,.slice none 0 0] 55)):=(Below.refl _ _).alloc (Nat.le_refl _) _;have kz0:Blk (Y.alloc (.cells #[.int .i64 0,.slice none 0 0] 55)) Y.heap.size 55 #[.int .i64 0,.slice none 0 0]:=Blk.new _ _ _;have uz0:(Y.alloc (.cells #[.int .i64 0,.slice none 0 0] 55)).cell? ⟨w.heap.size,0,none⟩=some (.int .i64 K):=(KP.out _ hbz0).1;have uz1:(Y.alloc (.cells #[.int .i64 0,.slice none 0 0] 55)).cell? ⟨w.heap.size,1,none⟩=some (.slice B n d):=(KP.out _ hbz0).2;go_cut [7] (fun v7 wv=>∃(X:World) (oB:Nat) (A1:Option Addr) (c1:Nat),X=wv∧v7=.pointer (some ⟨oB,0,none⟩)∧Y.heap.size≤oB∧SgW Y X oB K A1 n c1 (zHs cr nu L 0))
 case first =>
  go_region_law (first
   | ((refine zVx (base:=Y.heap.size) (A:=none) (n:=0) (c:=0) (L:=[]) (m:=n) (d:=d) (M:=L) rfl (.const (.slice none 0 0)) (.tmp 13) (by rfl) (by rfl) (by rfl) (OwnL.nil _ _) (by first | exact hBY.below (Below.refl _ _).drew | exact hBY.below hbz0.drew) n (by omega) hn2 (by first | exact Nat.le_refl _ | exact hbz0.size) ?_)
      intro A1 c1 w1 hown1 hg1 hl1
      have kb1:Below Y.heap.size Y w1:=(by first | exact zIe (Below.refl Y.heap.size Y).drew hg1 (Nat.le_refl _) | exact zIe hbz0.drew hg1 hbz0.size)
      obtain ⟨u0,u1⟩:=KP.out _ kb1
      obtain ⟨u2,u3⟩:=KP.out _ (kb1.alloc kb1.size (.cells #[.int .i64 0,.slice none 0 0] 55))
      try have kz1:=kz0.drew.grown hg1 (by simp [blk])
      try have y0:w1.cell? ⟨Y.heap.size,0,none⟩=some (.int .i64 0):=(kz1.cell 0).trans rfl
      try have y1:w1.cell? ⟨Y.heap.size,1,none⟩=some (.slice none 0 0):=(kz1.cell 1).trans rfl
      try have yz0:=kz1.frozen 0
      try have yz1:=kz1.frozen 1
      try have hfar:=zTZ kz0.lt hl1))
  all_goals
   rw [List.nil_append] at hown1;clear u0 u1 u2 u3 KP f0 f1 uz0 uz1;go_wp2_with fail
   go_meet
   case rel =>
    rw [zPu]
    first
     | exact ⟨_,w1.heap.size,A1,c1,rfl,rfl,kb1.size,hown1.alloc _,Blk.new _ _ _,fun q hq=>Nat.ne_of_lt (hown1.row.lt q hq).2,kb1.alloc kb1.size _⟩
     | exact zRr hown1 kz1 kb1 hfar
 case rest =>
  obtain ⟨Z,oB,A1,c1,hZ,rfl,hoY,hW0⟩:=hcut;subst hZ;clear kz0 uz0 uz1 hbz0 KP f0 f1;have g1:Z.cell? ⟨oB,1,none⟩=some (.slice A1 n c1):=(hW0.bk.cell 1).trans rfl;go_wp2_with fail
  clear g1;go_loopw [19] (fun v19 wv=>∃(i:Nat) (X:World),X=wv∧i≤n∧v19=.int .i64 i∧SgW Y X oB K A1 n c1 (zHs cr nu L i)) (fun v19 _=>n-(intOf v19).toNat)
  case atStart=>exact ⟨0,_,rfl,by omega,rfl,hW0⟩
  case round =>
   obtain ⟨i,X,hX,hi,rfl,hW⟩:=hrel;subst hX;clear hW0;by_cases hlt:i < n
   ·have j0:(0:Int)≤(i:Int):=by omega
    have j1:(i:Int) < (n:Int):=by omega
    have hil:i < L.length:=by rw [HLN.out];exact hlt
    have hgi:=zPv (cr:=cr) (nu:=nu) hil;have hll:la (zHs cr nu L i) i=la L i:=zQq hgi;obtain ⟨g,o,rfl,hgl,hat,hok⟩:=hW.own.lets.at_ hlt;rw [hll] at hat hok;obtain ⟨l,hle⟩:∃l,la L i=l:=⟨_,rfl⟩
    rw [hle] at hat hok hgi;obtain ⟨x0,x1,x2,x3,x4,x5⟩:=hat;have hbl:=(Below.refl X.heap.size X).alloc (Nat.le_refl _) (.cells #[.int .i64 l.kind,.int .i64 l.gate,.int .i64 l.rank,.int .i64 l.id,.int .i64 l.sign,.bool l.over] 76);have hl9:Blk (X.alloc (.cells #[.int .i64 l.kind,.int .i64 l.gate,.int .i64 l.rank,.int .i64 l.id,.int .i64 l.sign,.bool l.over] 76)) X.heap.size 76 #[.int .i64 l.kind,.int .i64 l.gate,.int .i64 l.rank,.int .i64 l.id,.int .i64 l.sign,.bool l.over]:=Blk.new _ _ _;have hW1:=hW.next hbl;have hgX:g < X.heap.size:=hgl;have HID1:=qH (HID.out i hlt);clear hW hbl hll;by_cases hk2:l.kind=2
    ·have q2:(l.kind != 2)=false:=by simpa using hk2
     have hcr2:isC (la L i)=true:=by rw [hle];exact zQr hk2
     have hid:=HID1.out hcr2;rw [hle] at hid;obtain ⟨k,hk⟩:∃k:Nat,(cr:Int)-l.id=(k:Int):=⟨((cr:Int)-l.id).toNat,by omega⟩
     have hk12:k≤12:=by omega
     have hkk:cr-l.id.toNat=k:=by omega
     obtain ⟨q,hq⟩:∃q,nu >>> k=q:=⟨_,rfl⟩
     have hq4:q < 4096:=by rw [←hq];exact Nat.lt_of_le_of_lt (Nat.shiftRight_le _ _) hnu
     have hdiv:(nu:Int) / 2 ^ k=(q:Int):=by rw [←hq,Nat.shiftRight_eq_div_pow];simp
     have hand:=zPx q hq4;have hwr:wrap64 ((cr:Int)-l.id)=(k:Int):=by rw [hk];unfold wrap64;omega
     have hokm:∀s,s=1∨s = -1→LtOk { l with sign:=s }:=fun s hs=>⟨hok.kind,hok.gate,hok.rank,hok.id,⟨by simp only;omega,by simp only;omega⟩⟩
     have HSG:=qH (show sgL cr nu (la L i)={ l with sign:=if q % 2=1 then 1 else -1 } by
      unfold sgL sgI
      rw [hcr2,if_pos rfl,hle,hkk,hq])
     have HSET:=qH (zMl (cr:=cr) (nu:=nu) hil);have hi1:i+1≤n:=hlt;have HGI:=qH hgi;have HOK:=qH hokm;clear hk2 hcr2 hid hle hk hkk hq hokm hgi hok;go_upto_region 6 with fail
     clear x0 x1 x2 x3 x5;generalize X.alloc (.cells #[.int .i64 l.kind,.int .i64 l.gate,.int .i64 l.rank,.int .i64 l.id,.int .i64 l.sign,.bool l.over] 76)=X1 at hl9 hW1 ⊢;generalize X.heap.size=a9 at hl9 hgX ⊢;have hat1:=(hW1.own.lets.also (k:=i) hlt).1;have hll1:la (zHs cr nu L i) i=l:=zQq HGI.out;rw [hll1] at hat1;have c1:X1.cell? ⟨oB,1,none⟩=some (.slice (some ⟨g,o,none⟩) n c1):=(hW1.bk.cell 1).trans rfl;have s4:X1.cell? ⟨g,o+i*6+4,none⟩=some (.int .i64 l.sign):=hat1.sign;have z4:=hW1.free hlt;have hW2:=hW1.put (x':={ l with sign:=-1 }) (u:=.int .i64 (-1)) HGI.out rfl (HOK.out _ (.inr rfl));have hl9b:=hl9.far (p:=⟨g,o+(i*6+4),none⟩) (by simp only;omega) (.int .i64 (-1));clear hat1 hll1 hW1 hl9;go_upto_region 7 with fail
     clear c1 s4 z4 x4;generalize X1.setCell ⟨g,o+i*6+4,none⟩ (.int .i64 (-1))=X2 at *
     change SgW Y X2 oB K (some ⟨g,o,none⟩) n c1 _ at hW2
     change Blk X2 a9 _ _ at hl9b
     have e3:X2.cell? ⟨a9,3,none⟩=some (.int .i64 l.id):=(hl9b.cell 3).trans rfl;have hg2:((zHs cr nu L i).set i { l with sign:=-1 })[i]? = some { l with sign:=-1 }:=by rw [List.getElem?_set_self (by rw [zJc _ _ _ (Nat.le_of_lt hil)];exact hil)]
     by_cases hb:q % 2=1
     ·have r1:(((q % 2:Nat):Int)==1)=true:=by rw [hb];rfl
      have c1:X2.cell? ⟨oB,1,none⟩=some (.slice (some ⟨g,o,none⟩) n c1):=(hW2.bk.cell 1).trans rfl;have hat2:=(hW2.own.lets.also (k:=i) hlt).1;rw [show la ((zHs cr nu L i).set i { l with sign:=-1 }) i={ l with sign:=-1 } from zQq hg2] at hat2;have s4:X2.cell? ⟨g,o+i*6+4,none⟩=some (.int .i64 (-1)):=hat2.sign;have z4:=hW2.free hlt;have hW3:=hW2.put (x':={ l with sign:=1 }) (u:=.int .i64 1) hg2 rfl (HOK.out _ (.inl rfl));rw [List.set_set,show ({ l with sign:=1 }:Lt)=sgL cr nu (la L i) by rw [HSG.out,if_pos hb],HSET.out] at hW3;have HW3:=qH hW3;clear hat2 hW2 hW3 hl9b hg2 hb;go_wp2_with fail
      go_roundw
      case rel=>exact ⟨i+1,_,rfl,hi1,by go_num,HW3.out⟩
      case measure=>simp [intOf];omega
     ·have hb0:q % 2=0:=by omega
      have r1:(((q % 2:Nat):Int)==1)=false:=by rw [hb0];rfl
      rw [show ({ l with sign:=-1 }:Lt)=sgL cr nu (la L i) by rw [HSG.out,if_neg hb],HSET.out] at hW2;clear hl9b hg2 hb hb0;go_wp2_with fail
      go_roundw
      case rel=>exact ⟨i+1,_,rfl,hi1,by go_num,hW2⟩
      case measure=>simp [intOf];omega
    ·have q2:(l.kind != 2)=true:=by simpa using hk2
     have hs:zHs cr nu L (i+1)=zHs cr nu L i:=zPw hil (by unfold sgL;rw [hle,zQs hk2];rfl);rw [←hs] at hW1;clear hk2 hle hs hl9 hgi hok;go_wp2_with fail
     go_roundw
     case rel=>exact ⟨i+1,_,rfl,by omega,by go_num,hW1⟩
     case measure=>simp [intOf];omega
   ·have j1:¬(i:Int) < (n:Int):=by omega
    have hin:i=L.length:=by rw [HLN.out];omega
    rw [hin,zRq] at hW;have hRl:w.heap.size+1 < Y.heap.size:=hk1.lt;have hR3:=hk1.below hW.old hRl;have e0:X.cell? ⟨oB,0,none⟩=some (.int .i64 K):=(hW.bk.cell 0).trans rfl;have e1:X.cell? ⟨oB,1,none⟩=some (.slice A1 n c1):=(hW.bk.cell 1).trans rfl;obtain ⟨r0,r1⟩:=cQ2 hR3;have z0:=hR3.frozen 0;have z1:=hR3.frozen 1;have HR3:=qH hR3;have HW:=qH hW;have hwY:=hb0.size;clear hin hlt hW hR3;go_wp2_with fail
    have hS:Blk ((X.setCell ⟨w.heap.size+1,0,none⟩ (.int .i64 K)).setCell ⟨w.heap.size+1,1,none⟩ (.slice A1 n c1)) (w.heap.size+1) 55 #[.int .i64 K,.slice A1 n c1]:=(HR3.out.set_ 0 _).set_ 1 _;have gS:=zAg (zAg (World.grownBy.refl X (some (w.heap.size+1))) (p:=⟨w.heap.size+1,0,none⟩) (.inl rfl) (.int .i64 K)) (p:=⟨w.heap.size+1,1,none⟩) (.inl rfl) (.slice A1 n c1);have hbS:=((zAa hb0 HW.out.old hwY).setCell (p:=⟨w.heap.size+1,0,none⟩) (by simp) (.int .i64 K)).setCell (p:=⟨w.heap.size+1,1,none⟩) (by simp) (.slice A1 n c1);have hLk:OwnL ((X.setCell ⟨w.heap.size+1,0,none⟩ (.int .i64 K)).setCell ⟨w.heap.size+1,1,none⟩ (.slice A1 n c1)) w.heap.size A1 n c1 (zCB cr nu L):=by
     refine ⟨(HW.out.own.row.kept gS ?_).mono hwY,HW.out.own.fits,HW.out.own.le⟩
     cases hb:blk A1 with
     | none=>exact .inl rfl
     | some q=>exact .inr (by have:=(HW.out.own.row.lt q hb).1;simp;omega)
    (try simp only [Exit.inBlock,Exit.then])
    refine zAi rfl rfl hS Tryz.underlying55 rfl (by kernel_rfl) rfl ?_;exact ⟨A1,n,c1,rfl,hLk,hbS⟩
structure It where
 fg:Option Fg
 n:Int
 b:Bool
def okI (t:It):Prop:=(∀f,t.fg=some f→zAm f=true)∧1≤t.n∧t.n≤999999999
def itW (t:It):List UInt8:=match t.fg with
 | some f=>zAk f++46 :: Lib.itoa t.n++[if t.b then 62 else 60]
 | none=>Lib.itoa t.n++[if t.b then 111 else 117]
def btI (L:List Fg) (t:It):Bi:=match t.fg with
 | some f=>⟨if zAG L f=0 then -1 else (zAG L f:Int),t.n,t.b⟩
 | none=>⟨0,t.n,t.b⟩
def zNs (L:List Fg) (t:It):Bool:=match t.fg with
 | some f=>zAW L f
 | none=>false
theorem zPy (f:Fg):(46:UInt8) ∉ zAk f:=fun hb=>by
 unfold zAk at hb;have h1:∀x:Int,(46:UInt8) ∉ Lib.itoa x:=fun x=>zLJ (by decide)
 rcases List.mem_append.1 hb with h | h
 ·split at h
  ·simp at h
  ·exact h1 _ h
 ·rcases List.mem_cons.1 h with h | h
  ·split at h<;>cases h
  ·exact h1 _ h
theorem zKj (A:List UInt8) (c:UInt8):zGo (A++[c])=Lib.cut A [46]:=by unfold zGo;rw [List.dropLast_concat]
theorem zDR (A:List UInt8) (c d:UInt8):zBJ (A++[c]) d=decide (c=d):=by unfold zBJ;simp
theorem zMm (L:List Fg) {t:It} (h:okI t):zMi L (itW t)=btI L t∧zNn (itW t)=false∧zSu (itW t)=t.fg.isNone∧zTU L (itW t)=zNs L t:=by
 obtain ⟨fg,n,b⟩:=t;obtain ⟨h1,h2,h3⟩:=h;have hc:=zHT h2 h3;simp only at hc h1
 cases fg with
 | none =>
  have hcut:zGo (Lib.itoa n++[if b then 111 else 117])=(Lib.itoa n,[],false):=by rw [zKj];exact zNY (zLJ (by decide))
  simp only [itW,btI,zNs];unfold zMi zNn zSu zTU;rw [hcut];simp only [List.dropLast_concat,hc,zDR]
  cases b<;>exact ⟨rfl,rfl,rfl,rfl⟩
 | some f =>
  have hf:=h1 f rfl;have hcut:zGo (zAk f++46 :: Lib.itoa n++[if b then 62 else 60])=(zAk f,Lib.itoa n,true):=by rw [zKj];exact zNX (zPy f)
  have hp:=zCn hf rfl;simp only [itW,btI,zNs];unfold zMi zNn zSu zTU zDg zJO zEh;rw [hcut];simp only [hp,hc,zDR]
  cases b<;>exact ⟨rfl,rfl,rfl,rfl⟩
theorem zFH {x:List UInt8} {c:UInt8} (h:zBJ x c=true):x=x.dropLast++[c]:=by
 unfold zBJ at h;rw [decide_eq_true_eq] at h;obtain ⟨C,rfl⟩:=List.getLast?_eq_some_iff.1 h;rw [List.dropLast_concat]
theorem zUa {S:List UInt8} {c:UInt8} (h:(Lib.cut S [c]).2.2=true):S=(Lib.cut S [c]).1++c :: (Lib.cut S [c]).2.1∧c ∉ (Lib.cut S [c]).1:=by
 by_cases hc:c∈S
 ·obtain ⟨a,r,rfl,ha⟩:=zIR hc;rw [zNX ha];exact ⟨rfl,ha⟩
 ·rw [zNY hc] at h;cases h
theorem zPz {x:List UInt8} (h:zNn x=false):∃t,okI t∧x=itW t:=by
 unfold zNn at h
 cases hc:(zGo x).2.2 with
 | true =>
  rw [hc,if_pos rfl] at h;simp only [Bool.or_eq_false_iff,Bool.not_eq_false',Bool.or_eq_true] at h;obtain ⟨⟨h1,h2⟩,h3⟩:=h;obtain ⟨v,hv⟩:∃v,zAu (zGo x).2.1=(v,true):=⟨(zAu (zGo x).2.1).1,by rw [←h3]⟩
  obtain ⟨e1,e2,e3⟩:=zCY hv;obtain ⟨f,hf⟩:∃f,zFP (zGo x).1=some f:=by
   unfold zJO at h1
   cases hp:zFP (zGo x).1 with
   | none=>rw [hp] at h1;cases h1
   | some f=>exact ⟨f,rfl⟩
  obtain ⟨k1,k2⟩:=zKS hf;have hx:=(zUa hc).1;rw [show (Lib.cut x.dropLast [46]).1=(zGo x).1 from rfl,show (Lib.cut x.dropLast [46]).2.1=(zGo x).2.1 from rfl,←k2,e1] at hx;refine ⟨⟨some f,v,zBJ x 62⟩,⟨fun g hg=>(by injection hg with hg;subst hg;exact k1),e2,e3⟩,?_⟩;simp only [itW];rcases h2 with h2 | h2
  ·rw [h2,if_pos rfl,←hx];exact zFH h2
  ·have hne:zBJ x 62=false:=by
    have:=zFH h2;rw [this,zDR];rfl
   rw [hne,←hx];exact zFH h2
 | false =>
  rw [hc,if_neg (by simp)] at h;simp only [Bool.or_eq_false_iff,Bool.not_eq_false',Bool.or_eq_true] at h;obtain ⟨h2,h3⟩:=h;obtain ⟨v,hv⟩:∃v,zAu x.dropLast=(v,true):=⟨(zAu x.dropLast).1,by rw [←h3]⟩
  obtain ⟨e1,e2,e3⟩:=zCY hv;refine ⟨⟨none,v,zBJ x 111⟩,⟨fun g hg=>(by cases hg),e2,e3⟩,?_⟩;simp only [itW];rcases h2 with h2 | h2
  ·rw [h2,if_pos rfl,←e1];exact zFH h2
  ·have hne:zBJ x 111=false:=by
    have:=zFH h2;rw [this,zDR];rfl
   rw [hne,←e1];exact zFH h2
theorem zPA (L:List Fg) {T:List It} (h:∀t∈T,okI t):(T.map itW).map (zMi L)=T.map (btI L)∧zFC L (T.map itW)=T.any (zNs L)∧zEp (T.map itW)=(match T.head? with | some t=>t.fg.isNone | none=>false):=by
 refine ⟨?_,?_,?_⟩
 ·rw [List.map_map];exact List.map_congr_left fun t ht=>(zMm L (h t ht)).1
 ·unfold zFC;rw [List.any_map]
  induction T with
  | nil=>rfl
  | cons t T ih =>
   rw [List.any_cons,List.any_cons,ih fun t ht=>h t (List.mem_cons_of_mem _ ht)];simp only [Function.comp];rw [(zMm L (h t (List.mem_cons_self ..))).2.2.2]
 ·have h1:(T.map itW).any zNn=false:=by
   rw [List.any_eq_false];intro x hx;obtain ⟨t,ht,rfl⟩:=List.mem_map.1 hx;rw [(zMm L (h t ht)).2.1];simp
  unfold zEp;rw [h1,Bool.false_or]
  cases T with
  | nil=>rfl
  | cons t T=>exact (zMm L (h t (List.mem_cons_self ..))).2.2.1
theorem zNt {W:List (List UInt8)} (h:zEp W=false):∃T:List It,(∀t∈T,okI t)∧W=T.map itW:=by
 unfold zEp at h;rw [Bool.or_eq_false_iff] at h;have h1:=h.1;clear h
 induction W with
 | nil=>exact ⟨[],by simp,rfl⟩
 | cons x W ih =>
  rw [List.any_cons,Bool.or_eq_false_iff] at h1;obtain ⟨t,ht,rfl⟩:=zPz h1.1;obtain ⟨T,hT,rfl⟩:=ih h1.2
  exact ⟨t :: T,fun s hs=>by
   rcases List.mem_cons.1 hs with rfl | hs
   ·exact ht
   ·exact hT s hs,rfl⟩
theorem zRs (t:It):(32:UInt8) ∉ itW t:=fun hb=>by
 obtain ⟨fg,n,b⟩:=t;have h1:=(zEG n).no32
 cases fg with
 | none =>
  simp only [itW] at hb;rcases List.mem_append.1 hb with h | h
  ·exact h1 h
  ·cases b<;>simp at h
 | some f =>
  simp only [itW] at hb;rcases List.mem_append.1 hb with h | h
  ·rcases List.mem_append.1 h with h | h
   ·exact (zCK f).no32 h
   ·rcases List.mem_cons.1 h with h | h
    ·cases h
    ·exact h1 h
  ·cases b<;>simp at h
theorem zNu {T:List It} (h:T≠[]):zAH 32 (Lib.join (T.map itW) [32])=T.map itW :=
 zEE (by simpa using h) fun p hp=>by
  obtain ⟨t,_,rfl⟩:=List.mem_map.1 hp;exact zRs t
def zSy (b:Bi):List Value:=[.int .i64 b.f,.int .i64 b.n,.bool b.b]
structure BiOk (b:Bi):Prop where
 f:I64 b.f
 n:I64 b.n
structure BiAt (w:World) (g o:Nat) (x:Bi):Prop where
 f:w.cell? ⟨g,o,none⟩=some (.int .i64 x.f)
 n:w.cell? ⟨g,o+1,none⟩=some (.int .i64 x.n)
 b:w.cell? ⟨g,o+2,none⟩=some (.bool x.b)
def Bits (w:World) (A:Option Addr) (n:Nat) (l:List Bi):Prop:=Els 3 zSy w A n l∧∀x∈l,BiOk x
section
variable {w w':World} {A:Option Addr} {n:Nat} {l:List Bi}
theorem Bits.len (h:Bits w A n l):l.length=n:=h.1.1
theorem Bits.below (h:Bits w A n l) (hb:Below w.heap.size w w'):Bits w' A n l:=⟨h.1.below hb,h.2⟩
theorem Bits.at_ {k:Nat} (h:Bits w A n l) (hk:k < n):∃g o,A=some ⟨g,o,none⟩∧g < w.heap.size∧BiAt w g (o+k*3) (ba l k)∧BiOk (ba l k):=by
 obtain ⟨g,o,e,hb,hc⟩:=h.1.2.2 (by omega);have hx:l[k]? = some (ba l k):=zMh (by rw [h.len];exact hk);refine ⟨g,o,e,hb,⟨hc k _ hx 0 _ rfl,hc k _ hx 1 _ rfl,hc k _ hx 2 _ rfl⟩,h.2 _ (List.mem_of_getElem? hx)⟩
end
theorem zVy:(Tryz.prog.info? 174).map (fun i=>(i.zero,i.size,i.bytes))=some (some (.agg #[.int .i64 0,.int .i64 0,.bool false]),3,24):=by kernel_rfl
theorem zWy {w:World} {ops:Array Oper} {rest:List Oper} {o:Oper} {a:Act} {Q:Exit→Act→World→Prop} (hgd:o.guard=none) (s x:Operand)
  (ho:o.op=.call { callee:=.builtin .append,args:=#[s,x],argTypes:=#[124,124] })
  {base:Nat} {A:Option Addr} {n c:Nat} {P:List Bi} (hst:Row w base 3 A n c (P.flatMap zSy)) (y:Bi)
  (hs:a.eval s=.slice A n c) (hx:a.eval x=.slice (some ⟨w.heap.size,0,none⟩) 1 1) (N:Nat) (hN:n+1=N) (hn:N≤1000000) (hbase:base≤w.heap.size)
  (h:∀A' c' w',Row w' base 3 A' N c' ((P++[y]).flatMap zSy)→w.grownBy w' (blk A)→(∀k,blk A'=some k→blk A=some k∨w.heap.size≤k)→wpList Tryz.prog ops Q rest (a.put o.dst (.slice A' N c')) w') :
  wpList Tryz.prog ops Q (o :: rest) a (w.alloc (.cells #[.int .i64 y.f,.int .i64 y.n,.bool y.b] 174)):=by
 obtain ⟨i0,hi,hz0,hz1,hz2⟩:=info_parts zVy;have hbl:=(Below.refl w.heap.size w).alloc (Nat.le_refl _) (.cells #[.int .i64 y.f,.int .i64 y.n,.bool y.b] 174);have hst1:=hst.below hbl
 refine zQk hgd s x 124 ho 174 i0 _ 3 24 Tryz.underlying124 hi hz0 hz1 hz2 rfl (by decide) hst1 (Src.new (m:=1) (cs:=zSy y) rfl)
  (by intro u hu;simp [zSy] at hu;rcases hu with rfl | rfl | rfl<;>rfl) hs hx N hN (by unfold maxLen;omega) (by omega) (by simp;omega) ?_
 intro A' c' w' h1 h2 h3 _;refine h A' c' w' (by rw [List.flatMap_append];simpa using h1) ?_ (fun k hk=>?_)
 ·exact zAb (zAv hbl) h2
 ·rcases h3 k hk with e | e
  ·exact .inl e
  ·exact .inr (by simp at e;omega)
def zPB (x:List UInt8):List UInt8:=match x.getLast? with
 | some c=>[c]
 | none=>[]
theorem zPC (S:List UInt8) (c:UInt8):zPB (S++[c])=[c]:=by unfold zPB;simp
theorem zJd (x:List UInt8) (c:UInt8):(zPB x==[c])=zBJ x c:=by
 unfold zPB zBJ
 cases x.getLast? with
 | none=>simp
 | some d=>by_cases h:d=c<;>simp [h]
theorem zRt (S:List UInt8) (c:UInt8) (w:World):(Instr.slice 9 (.string (bA (S++[c]))) none (some (.int .i64 (S.length:Int))) none).run Tryz.prog w=.ok (.string (bA S)) w:=by
 rw [run_slice_string_h w 9 (bA (S++[c])) Tryz.underlying9 .i64 (S.length:Int) (by omega) (by rw [zAC];simp;omega),zBu];simp
theorem zRu (S:List UInt8) (c:UInt8) (w:World):(Instr.slice 9 (.string (bA (S++[c]))) (some (.int .i64 (S.length:Int))) none none).run Tryz.prog w=.ok (.string (bA [c])) w:=by
 rw [run_slice_string_l w 9 (bA (S++[c])) Tryz.underlying9 .i64 (S.length:Int) (by omega) (by rw [zAC];simp;omega),zBu,zAC,List.take_of_length_le (Nat.le_refl _)];simp
theorem zUb (s:List UInt8) (hs:s.length≤100000) (w:World) (ht:Tabs w) :
  Calls Tryz.prog 62 #[.string (bA s),.string ⟨#[46]⟩] w fun e w'=>e=.returned (.tuple #[.string (bA (Lib.cut s [46]).1),.string (bA (Lib.cut s [46]).2.1),.bool (Lib.cut s [46]).2.2])∧Below w.heap.size w w':=by
 obtain ⟨m,hm⟩:=ht.most;have h:=Tryz.strings_Cut (bA s) (bA [46]) m w (by rw [zAC];omega) hm;rw [zDm,zDm] at h;refine h.mono ?_;rintro e w' ⟨rfl,n,rfl⟩;exact ⟨rfl,zAf (Below.refl _ _) n⟩
end Go.Proofs.YtlmdfmnbcndhoaaGreatDoor
