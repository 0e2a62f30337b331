/-
  Lemmas, part 30. Conditions: each theorem's own.
-/
import Derived.Test.YtlmdfmnbcndhoaaGreatDoorRl29
import Derived.Test.YtlmdfmnbcndhoaaGreatDoorRl01
import Derived.Test.YtlmdfmnbcndhoaaGreatDoorRl11
import Derived.StillTailTactics
namespace Go.Proofs.YtlmdfmnbcndhoaaGreatDoor
open Go.RowKit
set_option maxHeartbeats 400000 in
theorem zDH (i:Nat) (v:Value) (w:World) (hi:i≤100000) :
  Calls Tryz.prog 213 #[v,.int .i64 i] w fun e w'=>e=.returned (.int .i64 ((2*i:Nat):Int))∧Below w.heap.size w w':=by
 go_enter Tryz.func213,Tryz.ntmps213;go_wp2_with fail
 go_ret;exact ⟨zCh (by omega),Below.refl _ _⟩
set_option maxHeartbeats 400000 in
theorem zDg (i p:Nat) (K:Int) (A:Option Addr) (n c:Nat) (v2 v3 v4 v5 v6:Value) (w:World) (hd:Dia w p K A n c v2 v3 v4 v5 v6) (hi:i < n) (hn:n≤1000) :
  Calls Tryz.prog 212 #[.pointer (some ⟨p,0,none⟩),.int .i64 i] w fun e w'=>e=.returned (.int .i64 ((zCj n i false:Nat):Int))∧Below w.heap.size w w':=by
 have c1:=hd.c1
 have hf:=qH (show ((zCj n i false:Nat):Int)=2*(((i:Int)-1) % n)+1 by
  have e1:((i+n-1:Nat):Int)=(i:Int)-1+n:=by omega
  have e2:(((i+n-1) % n:Nat):Int)=((i:Int)-1+n) % n:=by rw [Int.natCast_emod,e1]
  have e3:((i:Int)-1+n) % n=((i:Int)-1) % n:=by simp
  unfold zCj
  simp only [Bool.false_eq_true,if_false]
  omega)
 have hm0:0≤((i:Int)-1) % n:=Int.emod_nonneg _ (by omega);have tW:((i:Int)-1) % n < n:=Int.emod_lt_of_pos _ (by omega);go_enter Tryz.func212,Tryz.ntmps212;go_wp2_with fail
 go_ret;exact ⟨zCh (by rw [hf.out]),Below.refl _ _⟩
structure DiaF (w:World) (base p k:Nat) (A:Option Addr) (n c:Nat) (L:List Lt) (b:Nat) (g2 g3 g4 g6:Nat) (s:List Bool) (P C:List Int) (ids:List Int):Prop where
 ranks:DiaR w base p k A n c L (.map (some b)) g2 g3 g4 g6 s P C
 vis:Vis w b L n ids
 lets:Lets w A n L
 good:Good (k:Int) L
 small:n≤400
set_option maxRecDepth 100000 in
set_option maxHeartbeats 3200000 in
theorem zJl (d base p k:Nat) (A:Option Addr) (n c:Nat) (L:List Lt) (b g2 g3 g4 g6:Nat) (s:List Bool) (P C ids:List Int) (w:World) (h:DiaF w base p k A n c L b g2 g3 g4 g6 s P C ids) (hd:d < zCz L) (hge:2*n≤d) :
  Calls Tryz.prog 200 #[.pointer (some ⟨p,0,none⟩),.int .i64 d] w fun e w'=>e=.returned (.int .i64 (zBT L (axL L) d))∧Below w.heap.size w w':=by
 have hn:=h.small;have cq:L.length=n:=h.lets.len;have hmp:=h.good.m_pos;have hml:(axL L).length≤n:=by rw [zFx,←cq];exact zNk L _
 have hD:=h.ranks.dia;have c1:=hD.c1;have c2:=hD.c2;have c3:=hD.c3;unfold zCz at hd;rw [cq] at hd;obtain ⟨m,hm⟩:∃m,m=(axL L).length:=⟨_,rfl⟩
 rw [←hm] at hd hmp hml c3;have HM:=qH hm;have HD:=qH hD;rcases Nat.mod_two_eq_zero_or_one d with h2 | h2
 ·obtain ⟨j,hj⟩:∃j,d=2*n+2*j:=⟨(d-2*n) / 2,by omega⟩
  have hjm:j < m:=by omega
  obtain ⟨t,ht⟩:∃t,t=(j+1) % m:=⟨_,rfl⟩
  have htm:t < m:=by rw [ht];exact Nat.mod_lt _ hmp
  have hx:=zGS (L:=L) (j:=t) (by rw [←hm];exact htm);obtain ⟨v,hv⟩:∃v,v=xat (axL L) t:=⟨_,rfl⟩
  have cx:=h.ranks.axis.cell (zIw (k:=t) (by rw [←hm];exact htm));have cy:=h.ranks.axis.cell (zIw (k:=j) (by rw [←hm];exact hjm));rw [←hv] at cx hx;obtain ⟨y,hy⟩:∃y,y=xat (axL L) j:=⟨_,rfl⟩
  rw [←hy] at cy;have hvn:v < n:=by rw [←cq];exact hx.2
  have cs:=h.ranks.down.cell hvn;rw [h.ranks.downs v hx.1] at cs
  have hf:=qH (show zBT L (axL L) d=zCj n v (!dwn L v) by
   unfold zBT
   rw [cq,←hm,if_pos hge,if_pos h2,show (d-2*n) / 2=j by omega,←ht,←hv])
  have q1:((d:Int)-2*(n:Int)) / 2=(j:Int):=by omega
  have q2:((d:Int) % 2==0)=true:=by simp;omega
  have q3:((j:Int)+1) % (m:Int)=(t:Int):=by rw [ht];simp
  have iR:((j:Int)+1).tmod (m:Int)=(t:Int):=by rw [Int.tmod_eq_emod_of_nonneg (by omega)];exact q3
  have iQ:IntKind.i64.wrap ((j:Int)+1)=(j:Int)+1:=IntWalk.i64_in _ (by omega);have iP:IntKind.i64.wrap (t:Int)=(t:Int):=IntWalk.i64_in _ (by omega);have Er:¬m=0:=by omega
  have q4:(0:Int)≤(t:Int):=by omega
  have q5:(t:Int) < (m:Int):=by omega
  have q6:(2:Int)*(n:Int)≤(d:Int):=by omega
  have q7:(0:Int)≤(j:Int):=by omega
  have q8:(j:Int) < (m:Int):=by omega
  have q9:(0:Int)≤(v:Int):=by omega
  have vC:(v:Int) < (n:Int):=by omega
  clear ht hv hj h2 cq hx hm hy hD
  cases hw:dwn L v with
  | false =>
   rw [hw] at hf cs;clear hw;go_enter Tryz.func200,Tryz.ntmps200;go_wp2_with fail
   go_quiet (fail)
   go_wp2_with fail
   generalize hwx:w.drewN nq=wx;have hbx:Below w.heap.size w wx:=by rw [←hwx];exact zAf (Below.refl _ _) _
   have x1:=(hbx.cell (World.block_lt_of_cell? w _ cx)).trans cx;have x2:=(HD.out.next hbx).c3;rw [←HM.out] at x2;have x3:=(hbx.cell (World.block_lt_of_cell? w _ cs)).trans cs;have x4:=(HD.out.next hbx).c2;clear hwx c1 c2 c3 cx cy cs;go_quiet (fail)
   go_wp2_with fail
   refine (zDH v _ _ (by omega)).mono ?_;rintro e w2 ⟨rfl,ai⟩;have al:=zAa (zAf hbx _) ai hbx.size;go_wp2_with fail
   go_ret;exact ⟨zCh (by rw [hf.out];simp [zCj]),al⟩
  | true =>
   rw [hw] at hf cs;clear hw;go_enter Tryz.func200,Tryz.ntmps200;go_wp2_with fail
   go_quiet (fail)
   go_wp2_with fail
   generalize hwx:w.drewN nq=wx;have hbx:Below w.heap.size w wx:=by rw [←hwx];exact zAf (Below.refl _ _) _
   have x1:=(hbx.cell (World.block_lt_of_cell? w _ cx)).trans cx;have x2:=(HD.out.next hbx).c3;rw [←HM.out] at x2;have x3:=(hbx.cell (World.block_lt_of_cell? w _ cs)).trans cs;have x4:=(HD.out.next hbx).c2;have HDx:=qH (HD.out.next hbx);clear hwx c1 c2 c3 cx cy cs;go_quiet (fail)
   go_wp2_with fail
   refine (zDg v p (k:Int) A n c _ _ _ _ _ _ (Dia.drewN HDx.out _) hvn (by omega)).mono ?_;rintro e w2 ⟨rfl,ai⟩;have al:=zAa (zAf hbx _) ai hbx.size;go_wp2_with fail
   go_ret;exact ⟨zCh (by rw [hf.out];simp),al⟩
 ·obtain ⟨j,hj⟩:∃j,d=2*n+2*j+1:=⟨(d-2*n) / 2,by omega⟩
  have hjm:j < m:=by omega
  have hx:=zGS (L:=L) (j:=j) (by rw [←hm];exact hjm);obtain ⟨v,hv⟩:∃v,v=xat (axL L) j:=⟨_,rfl⟩
  have cx:=h.ranks.axis.cell (zIw (k:=j) (by rw [←hm];exact hjm));rw [←hv] at cx hx;have hvn:v < n:=by rw [←cq];exact hx.2
  have cs:=h.ranks.down.cell hvn;rw [h.ranks.downs v hx.1] at cs
  have hf:=qH (show zBT L (axL L) d=zCj n v (dwn L v) by
   unfold zBT
   rw [cq,if_pos hge,if_neg (by omega),show (d-2*n) / 2=j by omega,←hv])
  have q1:((d:Int)-2*(n:Int)) / 2=(j:Int):=by omega
  have q2:((d:Int) % 2==0)=false:=by simp;omega
  have q6:(2:Int)*(n:Int)≤(d:Int):=by omega
  have q7:(0:Int)≤(j:Int):=by omega
  have q8:(j:Int) < (m:Int):=by omega
  have q9:(0:Int)≤(v:Int):=by omega
  have vC:(v:Int) < (n:Int):=by omega
  clear hv hj h2 cq hx hm hD
  cases hw:dwn L v with
  | true =>
   rw [hw] at hf cs;clear hw;go_enter Tryz.func200,Tryz.ntmps200;go_wp2_with fail
   go_quiet (fail)
   go_wp2_with fail
   refine (zDH v _ _ (by omega)).mono ?_;rintro e w2 ⟨rfl,ai⟩;have al:=zAa (zAf (Below.refl w.heap.size w) _) ai (Nat.le_refl _);go_wp2_with fail
   go_ret;exact ⟨zCh (by rw [hf.out];simp [zCj]),al⟩
  | false =>
   rw [hw] at hf cs;clear hw;go_enter Tryz.func200,Tryz.ntmps200;go_wp2_with fail
   go_quiet (fail)
   go_wp2_with fail
   refine (zDg v p (k:Int) A n c _ _ _ _ _ _ (Dia.drewN HD.out _) hvn (by omega)).mono ?_;rintro e w2 ⟨rfl,ai⟩;have al:=zAa (zAf (Below.refl w.heap.size w) _) ai (Nat.le_refl _);go_wp2_with fail
   go_ret;exact ⟨zCh (by rw [hf.out]),al⟩
theorem zIl {d n v:Nat} (hd:d < 2*n) (hv:v=zBK n d):∃e:Nat,(d:Int) / 2=(e:Int)∧v < n∧((d % 2=0∧((e:Int)+1) % (n:Int)=(v:Int))∨(d % 2=1∧v=e)):=by
 refine ⟨d / 2,by omega,by rw [hv];exact zIL hd,?_⟩;unfold zBK at hv;rcases Nat.mod_two_eq_zero_or_one d with h | h
 ·rw [if_pos h] at hv;exact .inl ⟨h,by rw [hv];simp⟩
 ·rw [if_neg (by omega)] at hv;exact .inr ⟨h,hv⟩
set_option maxRecDepth 100000 in
set_option maxHeartbeats 3200000 in
theorem zJm (d base p k:Nat) (A:Option Addr) (n c:Nat) (L:List Lt) (b g2 g3 g4 g6:Nat) (s:List Bool) (P C ids:List Int) (w:World) (h:DiaF w base p k A n c L b g2 g3 g4 g6 s P C ids) (hlt:d < 2*n) (hc:isP (la L (zBK n d))=true) :
  Calls Tryz.prog 200 #[.pointer (some ⟨p,0,none⟩),.int .i64 d] w fun e w'=>e=.returned (.int .i64 (zBT L (axL L) d))∧Below w.heap.size w w':=by
 have hn:=h.small;have hA:=h.lets;have g:=h.good;have cq:L.length=n:=hA.len;have hmp:=g.m_pos;have hml:(axL L).length≤n:=by rw [zFx,←cq];exact zNk L _
 have hD:=h.ranks.dia;have c1:=hD.c1;have c3:=hD.c3;obtain ⟨m,hm⟩:∃m,m=(axL L).length:=⟨_,rfl⟩
 rw [←hm] at hmp hml c3;obtain ⟨v,hv⟩:∃v,v=zBK n d:=⟨_,rfl⟩
 obtain ⟨e,he,hvn,hcase⟩:=zIl hlt hv;rw [←hv] at hc;have hf:=g.left_pass (d:=d) (by omega) (by rw [cq,←hv];exact hc);rw [cq,←hv,←hm] at hf;obtain ⟨j,hj⟩:∃j,j=atN L v:=⟨_,rfl⟩
 have hjm:j < m:=by rw [hj,hm];exact g.at_lt hc
 rw [←hj] at hf;obtain ⟨t,ht⟩:∃t,t=(j+m-1) % m:=⟨_,rfl⟩
 have htm:t < m:=by rw [ht];exact Nat.mod_lt _ hmp
 rw [←ht] at hf;have q9:((j:Int)-1+(m:Int)) % (m:Int)=(t:Int):=by
  rw [ht,Int.natCast_emod]
  congr 1
  omega
 have q9b:((j:Int)-1) % (m:Int)=(t:Int):=by rw [←q9];simp
 have hk:(la L v).kind=1:=by unfold isP at hc;simpa using hc
 have cs:=h.ranks.down.cell hvn;rw [h.ranks.downs v hc] at cs;have cp:=h.ranks.place.cell (h.ranks.places v hc);rw [←hj] at cp;obtain ⟨gg,o,rfl,hgl,hx,_⟩:=hA.at_ hvn;obtain ⟨x0,x1,x2,x3,x4,x5⟩:=hx;have q0:decide ((2:Int)*(n:Int)≤(d:Int))=false:=by simp;omega
 have q6:((la L v).kind==1)=true:=by simpa using hk
 have v0:(0:Int)≤(v:Int):=by omega
 have v1:(v:Int) < (n:Int):=by omega
 have l0:=hD.lt;have l1:=h.ranks.down.lt;have l2:=h.ranks.place.lt;have tr:=qH hD;clear hv hc hk hj ht hm cq hD q9
 cases hX:dwn L v<;>rcases hcase with ⟨hp,hq⟩ | ⟨hp,hq⟩
 all_goals
  rw [hX] at hf cs;clear hX
  first
   | (have q2:((d:Int) % 2==0)=true:=(by simp;omega)
      have oh:(d % 2==0)=true:=(by simp;omega)
      rw [oh] at hf
      clear oh)
   | (have q2:((d:Int) % 2==0)=false:=(by simp;omega)
      have oh:(d % 2==0)=false:=(by simp;omega)
      rw [oh] at hf
      clear oh
      subst hq)
  have HF:=qH hf;clear hf hp;go_enter Tryz.func200,Tryz.ntmps200;go_wp2_with fail
  go_quiet (fail)
  generalize hwx:w.drewN nq=wx;have hbx:Below w.heap.size w wx:=by rw [←hwx];exact zAf (Below.refl _ _) _
  have y1:=(tr.out.next hbx).c1;have y2:=(tr.out.next hbx).c2;have y4:=(tr.out.next hbx).c4;have ys:=(hbx.cell (World.block_lt_of_cell? w _ cs)).trans cs;have yp:=(hbx.cell (World.block_lt_of_cell? w _ cp)).trans cp;have z0:=(hbx.cell (World.block_lt_of_cell? w _ x0)).trans x0;have z1:=(hbx.cell (World.block_lt_of_cell? w _ x1)).trans x1;have z2:=(hbx.cell (World.block_lt_of_cell? w _ x2)).trans x2;have z3:=(hbx.cell (World.block_lt_of_cell? w _ x3)).trans x3;have z4:=(hbx.cell (World.block_lt_of_cell? w _ x4)).trans x4;have z5:=(hbx.cell (World.block_lt_of_cell? w _ x5)).trans x5;have hzz:=hbx.size;have m0:p < wx.heap.size:=by omega
  have m1:g2 < wx.heap.size:=by omega
  have m2:g4 < wx.heap.size:=by omega
  clear hwx c1 c3 cs cp x0 x1 x2 x3 x4 x5;go_wp2_with fail
  go_ret;exact ⟨zCh (by rw [HF.out];simp),zAa hbx ((Below.refl _ _).alloc (Nat.le_refl _) _) hbx.size⟩
theorem KMap.lookNo {P:Program} {w:World} {k:TypeId} {b:Nat} {kv:List (Value×Value)} (h:KMap w P k b kv) (K:Go.Maps.Keyed P k) {t e:TypeId} (ht:P.underlying t=some (.map k e)) {z:Value} (hz:∀w,(zeroValue e).run P w=.ok z w) {key v:Value} {l:Lit} (hkey:keyOf P k key=some l) (hone:∃j:Nat,kv[j]? = some (key,v)) (huniq:∀(i j:Nat) (u u':Value),kv[i]? = some (key,u)→kv[j]? = some (key,u')→u=u') :
  (Instr.lookup t (.map (some b)) key false).run P w=.ok v w:=by
 rcases h.look K ht (hz w) hkey with ⟨_,h2⟩ | ⟨j,u,h1,h2⟩
 ·obtain ⟨j,hj⟩:=hone;exact absurd rfl (h2 _ (List.mem_of_getElem? hj))
 ·obtain ⟨j',BN⟩:=hone;rw [h1,huniq j j' u v h2 BN]
theorem Vis.get {w:World} {b n:Nat} {L:List Lt} {ids:List Int} (h:Vis w b L n ids) {d:Int} (hd:I64 d) (ht:0 < tN L d n) :
  (Instr.lookup 146 (.map (some b)) (.int .i64 d) false).run Tryz.prog w=.ok (.agg #[.int .i64 (zAv L d false n),.int .i64 (zAv L d true n)]) w:=by
 obtain ⟨l,hl⟩:=zPK d hd;obtain ⟨j,hj,hje⟩:=List.getElem_of_mem ((h.mem d).2 ht);refine h.map.lookNo zGA Tryz.underlying146 zMJ hl ⟨j,by rw [List.getElem?_map,List.getElem?_eq_getElem hj,hje];rfl⟩ (fun i j u u' hi hj=>?_);rw [List.getElem?_map] at hi hj;obtain ⟨d1,e1,f1⟩:=Option.map_eq_some_iff.1 hi;obtain ⟨d2,e2,f2⟩:=Option.map_eq_some_iff.1 hj;simp only [ent,Prod.mk.injEq,Value.int.injEq,true_and] at f1 f2;obtain ⟨rfl,rfl⟩:=f1;obtain ⟨rfl,rfl⟩:=f2;rfl
set_option maxRecDepth 100000 in
set_option maxHeartbeats 3200000 in
theorem zHJ (d base p k:Nat) (A:Option Addr) (n c:Nat) (L:List Lt) (b g2 g3 g4 g6:Nat) (s:List Bool) (P C ids:List Int) (w:World) (h:DiaF w base p k A n c L b g2 g3 g4 g6 s P C ids) (hlt:d < 2*n) (hc:isC (la L (zBK n d))=true) :
  Calls Tryz.prog 200 #[.pointer (some ⟨p,0,none⟩),.int .i64 d] w fun e w'=>e=.returned (.int .i64 (zBT L (axL L) d))∧Below w.heap.size w w':=by
 have hn:=h.small;have hA:=h.lets;have g:=h.good;have cq:L.length=n:=hA.len;have hmp:=g.m_pos;have hml:(axL L).length≤n:=by rw [zFx,←cq];exact zNk L _
 have hD:=h.ranks.dia;have c1:=hD.c1;have c3:=hD.c3;obtain ⟨m,hm⟩:∃m,m=(axL L).length:=⟨_,rfl⟩
 rw [←hm] at hmp hml c3;obtain ⟨v,hv⟩:∃v,v=zBK n d:=⟨_,rfl⟩
 obtain ⟨e,he,hvn,hcase⟩:=zIl hlt hv;rw [←hv] at hc;have hf:=g.left_cross (d:=d) (by omega) (by rw [cq,←hv];exact hc);rw [cq,←hv] at hf;have hov:zJD L v < n:=by rw [←cq];exact zEF (g.other hc).2.1
 have hlast:=g.last hc;rw [cq] at hlast;have htp:0 < tN L (la L v).id n:=zJL (i:=v) hvn (by simp [hc]);have hI:=(hA.fits (la L v) (by unfold la;rw [List.getElem?_eq_getElem (by omega)];exact List.getElem_mem _)).id;have hk:(la L v).kind=2:=by unfold isC at hc;simpa using hc
 obtain ⟨gg,o,rfl,hgl,hx,_⟩:=hA.at_ hvn;obtain ⟨x0,x1,x2,x3,x4,x5⟩:=hx;have q0:decide ((2:Int)*(n:Int)≤(d:Int))=false:=by simp;omega
 have q6:((la L v).kind==1)=false:=by simp;omega
 have v0:(0:Int)≤(v:Int):=by omega
 have v1:(v:Int) < (n:Int):=by omega
 have l0:=hD.lt;have DD:=qH hlast;have HVS:=qH h.vis;have tr:=qH hD;clear hv hc hk hm cq hD hlast
 cases hS:((la L v).sign==1)<;>cases hO:(la L v).over<;>rcases hcase with ⟨hp,hq⟩ | ⟨hp,hq⟩
 all_goals
  rw [hO,hS] at hf;rw [hO] at DD;simp only [Bool.not_true,Bool.not_false] at DD
  first
   | (have q2:((d:Int) % 2==0)=true:=(by simp;omega)
      have oh:(d % 2==0)=true:=(by simp;omega)
      rw [oh] at hf
      clear oh)
   | (have q2:((d:Int) % 2==0)=false:=(by simp;omega)
      have oh:(d % 2==0)=false:=(by simp;omega)
      rw [oh] at hf
      clear oh
      subst hq)
  have HF:=qH hf;clear hf hp;go_enter Tryz.func200,Tryz.ntmps200;go_wp2_with fail
  go_quiet (fail)
  generalize hwx:w.drewN nq=wx;have hbx:Below w.heap.size w wx:=by rw [←hwx];exact zAf (Below.refl _ _) _
  have uP:=tr.out.next hbx;have y1:=uP.c1;have ER:=HVS.out.next hbx;have z0:=(hbx.cell (World.block_lt_of_cell? w _ x0)).trans x0;have z1:=(hbx.cell (World.block_lt_of_cell? w _ x1)).trans x1;have z2:=(hbx.cell (World.block_lt_of_cell? w _ x2)).trans x2;have z3:=(hbx.cell (World.block_lt_of_cell? w _ x3)).trans x3;have z4:=(hbx.cell (World.block_lt_of_cell? w _ x4)).trans x4;have z5:=(hbx.cell (World.block_lt_of_cell? w _ x5)).trans x5;have hzz:=hbx.size;have m0:p < wx.heap.size:=by omega
  clear hwx c1 c3 x0 x1 x2 x3 x4 x5;go_wp2_with fail
  generalize hW:wx.alloc _=W;have pz:Below wx.heap.size wx W:=by rw [←hW];exact (Below.refl _ _).alloc (Nat.le_refl _) _
  have mX:W.heap.size=wx.heap.size+1:=by rw [←hW];simp
  have jI:=uP.next pz;have jn:=ER.next pz;have u5:=jI.c5;have uc:=(jn.drew).get hI htp;have ub:=((jn.alloc (.cells #[.int .i64 0,.int .i64 0] 226)).drew).get hI htp;have w3:W.cell? ⟨wx.heap.size,3,none⟩=some (.int .i64 (la L v).id):=by rw [←hW];rw [(Blk.new wx 76 _).cell 3];rfl
  have w4:W.cell? ⟨wx.heap.size,4,none⟩=some (.int .i64 (la L v).sign):=by rw [←hW];rw [(Blk.new wx 76 _).cell 4];rfl
  have w5:W.cell? ⟨wx.heap.size,5,none⟩=some (.bool (la L v).over):=by rw [hO];rw [←hW];rw [(Blk.new wx 76 _).cell 5];rfl
  clear hW;go_region
  all_goals
   generalize hX2:(World.alloc W _).drew=X2;have bh:Below W.heap.size W X2:=by rw [←hX2];exact ((Below.refl _ _).alloc (Nat.le_refl _) _).drew
   have hpr:Blk X2 (wx.heap.size+1) 226 #[.int .i64 (zAv L (la L v).id false n),.int .i64 (zAv L (la L v).id true n)]:=by rw [←hX2,←mX];exact (Blk.new W _ _).drew
   have r0:=hpr.cell 0;have r1:=hpr.cell 1;have s4:=(bh.cell (World.block_lt_of_cell? W _ w4)).trans w4;have s5:=(bh.cell (World.block_lt_of_cell? W _ w5)).trans w5;have gI:=jI.next bh;go_wp2_with fail
   rw [DD.out];have ay:=zAa hbx pz hbx.size;have ai:=zAa ay bh ay.size;clear uc ub jI jn ER uP u5 w3 w4 w5 y1 z0 z1 z2 z3 z4 z5 r0 r1 s4 s5 hpr bh pz hbx
  all_goals
   first
    | (refine (zDH (zJD L v) _ _ (by omega)).mono ?_
       rintro e w2 ⟨rfl,al⟩
       have aI:=zAa ai al ai.size
       go_wp2_with fail
       go_ret
       exact ⟨zCh (by rw [HF.out];simp [zCj]),aI⟩)
    | (refine (zDg (zJD L v) p (k:Int) (some ⟨gg,o,none⟩) n c _ _ _ _ _ _ gI hov (by omega)).mono ?_
       rintro e w2 ⟨rfl,al⟩
       have aI:=zAa ai al ai.size
       go_wp2_with fail
       go_ret
       exact ⟨zCh (by rw [HF.out];simp),aI⟩)
theorem DiaF.next {w w':World} {base p k:Nat} {A:Option Addr} {n c:Nat} {L:List Lt} {b g2 g3 g4 g6:Nat} {s:List Bool} {P C ids:List Int} (h:DiaF w base p k A n c L b g2 g3 g4 g6 s P C ids) (hb:Below w.heap.size w w'):DiaF w' base p k A n c L b g2 g3 g4 g6 s P C ids :=
 ⟨⟨h.ranks.dia.next hb,h.ranks.down.below hb h.ranks.down.lt,h.ranks.axis.below hb h.ranks.axis.lt,h.ranks.place.below hb h.ranks.place.lt,h.ranks.count.below hb h.ranks.count.lt,h.ranks.downs,h.ranks.places,h.ranks.counts,h.ranks.ndown⟩,h.vis.next hb,h.lets.below hb,h.good,h.small⟩
theorem zRM (d base p k:Nat) (A:Option Addr) (n c:Nat) (L:List Lt) (b g2 g3 g4 g6:Nat) (s:List Bool) (P C ids:List Int) (w:World) (h:DiaF w base p k A n c L b g2 g3 g4 g6 s P C ids) (hd:d < zCz L) :
  Calls Tryz.prog 200 #[.pointer (some ⟨p,0,none⟩),.int .i64 d] w fun e w'=>e=.returned (.int .i64 (zBT L (axL L) d))∧Below w.heap.size w w':=by
 have hl:=h.lets.len;rcases Nat.lt_or_ge d (2*n) with hlt | hge
 ·rcases h.good.kinds (zBK n d) (by rw [hl];exact zIL hlt) with hp | hc
  ·exact zJm d base p k A n c L b g2 g3 g4 g6 s P C ids w h hlt hp
  ·exact zHJ d base p k A n c L b g2 g3 g4 g6 s P C ids w h hlt hc
 ·exact zJl d base p k A n c L b g2 g3 g4 g6 s P C ids w h hd hge
def unW (w:World) (g:Nat):Nat :=
 match w.heap[g]? with
 | some (.cells cs _ _)=>cs.toList.countP (fun v=>match v with | .bool b=>!b | _=>false)
 | _=>0
theorem OwnB.unW {w:World} {base g n:Nat} {s:List Bool} (h:OwnB w base g n s):unW w g=unN s:=by
 have hb:=h.blk;unfold Blk at hb;unfold Proofs.YtlmdfmnbcndhoaaGreatDoor.unW unN;rw [hb];simp only [List.countP_map];rfl
theorem Good.visits {K:Int} {L:List Lt} (g:Good K L):dN L L.length=cN L L.length / 2:=by
 refine zVB ?_;unfold zBz;simp only [Bool.and_eq_true,decide_eq_true_eq,zAI];exact ⟨g.ceven,g.cross⟩
theorem zUE {f:Nat→Nat} {k:Nat} {s:List Bool} {x:Nat} (h:sat s x=true):zEg f k s x=([],s):=by
 cases k with
 | zero=>rfl
 | succ k=>unfold zEg;rw [if_pos h]
theorem zUF {f:Nat→Nat} {k:Nat} {s:List Bool} {x:Nat} (h:sat s x=false):zEg f (k+1) s x=(x :: (zEg f k (s.set x true) (f x)).1,(zEg f k (s.set x true) (f x)).2):=by
 conv=>lhs;unfold zEg
 rw [if_neg (by rw [h];simp)]
theorem zVZ {f:Nat→Nat} {d k:Nat} {s:List Bool} (h:sat s d=true):zCk f (List.range' d (k+1)) s=zCk f (List.range' (d+1) k) s:=by
 rw [List.range'_succ];conv=>lhs;unfold zCk
 rw [if_pos h]
theorem zXi {f:Nat→Nat} {d k:Nat} {s:List Bool} (h:sat s d=false):zCk f (List.range' d (k+1)) s=(zEg f s.length s d).1 :: zCk f (List.range' (d+1) k) (zEg f s.length s d).2:=by
 rw [List.range'_succ];conv=>lhs;unfold zCk
 rw [if_neg (by rw [h];simp)]
set_option maxRecDepth 100000 in
set_option maxHeartbeats 3200000 in
theorem zMK (base p k:Nat) (A:Option Addr) (n c:Nat) (L:List Lt) (b g2 g3 g4 g6:Nat) (s:List Bool) (P C ids:List Int) (w:World) (h:DiaF w base p k A n c L b g2 g3 g4 g6 s P C ids) :
  Calls Tryz.prog 179 #[.pointer (some ⟨p,0,none⟩)] w fun e w'=>e=.returned (.bool (zKW L))∧Below w.heap.size w w':=by
 have EK:=h.small;have cq:=qH h.lets.len;have hD:=h.ranks.dia;obtain ⟨m,hm⟩:∃m,m=(axL L).length:=⟨_,rfl⟩
 have hmn:m≤n:=by rw [hm,zFx,cq.out];exact zNk L n
 obtain ⟨N,hN⟩:∃N,N=zCz L:=⟨_,rfl⟩
 have Fe:N=2*n+2*m:=by rw [hN,hm];unfold zCz;rw [cq.out]
 have Ct:N≤17592186044416:=by omega
 have c1:=hD.c1;have c3:=hD.c3;rw [←hm] at c3;have HM:=qH hm;have HN:=qH hN;have tk:=qH Fe;have hW:Hid (0+(zCk (zBT L (axL L)) (List.range' 0 (N-0)) (List.replicate N false)).length=(zGI L).length):=by
  show _=_;rw [Nat.zero_add,Nat.sub_zero,←List.range_eq_range',hN];rfl
 clear hm hN Fe hD;go_enter Tryz.func179,Tryz.ntmps179;go_wp2_with fail
 go_quiet (fail)
 generalize hwx:w.drewN nq=wx;have hbx:Below w.heap.size w wx:=by rw [←hwx];exact zAf (Below.refl _ _) _
 have hzx:w.heap.size=wx.heap.size:=by rw [←hwx];rfl
 have hHZ:=qH hzx;clear hwx hzx;go_wp2_with (at_make;refine zOB rfl _ _ rfl N _ rfl rfl (by have:=tk.out;omega) Ct (Nat.le_refl _) ?_;rw [←hHZ.out];intro ws tM hbs0' hzs)
 have xS:Below w.heap.size w ws:=hbx.trans hbs0';clear c1 c3 hbs0' hbx;go_loopw [5,6,7,25] (fun v5 _ _ v25 wr=>∃(d q:Nat) (s':List Bool),d≤N∧q≤d∧v25=.int .i64 d∧v5=.int .i64 q∧OwnB wr w.heap.size w.heap.size N s'∧Below w.heap.size w wr∧Hid (q+(zCk (zBT L (axL L)) (List.range' d (N-d)) s').length=(zGI L).length)) (fun _ _ _ v25 _=>N-(intOf v25).toNat)
 case atStart=>exact ⟨0,0,List.replicate N false,Nat.zero_le _,Nat.le_refl _,rfl,rfl,tM,xS,hW⟩
 case round =>
  obtain ⟨d,q,s',hd,hqd,rfl,rfl,hs,hbw,HW⟩:=hrel;clear tM hW xS;by_cases hdN:d < N
  ·have hcs:=hs.cell hdN;have i0:(0:Int)≤(d:Int):=by omega
   have i1:(d:Int) < (N:Int):=by omega
   have i2:(d:Int) < 2*(n:Int)+2*(m:Int):=by have:=tk.out;omega
   cases hsd:sat s' d with
   | true =>
    rw [hsd] at hcs
    have HW':=qH (show q+(zCk (zBT L (axL L)) (List.range' (d+1) (N-(d+1))) s').length=(zGI L).length by
     rw [←HW.out,show N-d=N-(d+1)+1 by omega,zVZ hsd])
    clear hsd HW;go_wp2_with fail
    go_roundw
    case rel=>exact ⟨d+1,q,s',by omega,by omega,by go_num,rfl,hs,hbw,HW'⟩
    case measure=>simp [intOf];omega
   | false =>
    rw [hsd] at hcs
    have Fl:=qH (show q+1+(zCk (zBT L (axL L)) (List.range' (d+1) (N-(d+1))) (zEg (zBT L (axL L)) N s' d).2).length=(zGI L).length by
     rw [←HW.out,show N-d=N-(d+1)+1 by omega,zXi hsd,hs.len];simp;omega)
    clear hsd HW;have hu0:unN s'≤N:=by rw [←hs.len];exact zVD s'
    go_wp2_with fail
    obtain ⟨wo,rfl⟩:∃wo:World,wo=wr:=⟨_,rfl⟩
    go_loopw [7] (fun v7 wi=>∃(x k:Nat) (si:List Bool),x < N∧v7=.int .i64 x∧OwnB wi w.heap.size w.heap.size N si∧Below w.heap.size w wi∧unN si≤k∧Hid ((zEg (zBT L (axL L)) k si x).2=(zEg (zBT L (axL L)) N s' d).2)) (fun _ wi=>unW wi w.heap.size)
    case atStart=>exact ⟨d,N,s',hdN,rfl,hs,hbw,hu0,qH rfl⟩
    case round =>
     obtain ⟨x,k',si,hx,rfl,hsi,hbi,huk,HP⟩:=hrel;have j0:(0:Int)≤(x:Int):=by omega
     have j1:(x:Int) < (N:Int):=by omega
     have hcx:=hsi.cell hx;have hfx:=hsi.frozen x
     cases hsx:sat si x with
     | true =>
      rw [hsx] at hcx;have uM:=HP.out;rw [zUE hsx] at uM
      have CG:=qH (show q+1+(zCk (zBT L (axL L)) (List.range' (d+1) (N-(d+1))) si).length=(zGI L).length by
       rw [←Fl.out,←uM])
      clear hsx HP uM Fl hs hbw;go_wp2_with fail
      go_roundw
      case rel=>exact ⟨d+1,q+1,si,by omega,by omega,by go_num,by go_num,hsi,hbi,CG⟩
      case measure=>simp [intOf];omega
     | false =>
      rw [hsx] at hcx;obtain ⟨k',rfl⟩:∃k'',k'=k''+1:=⟨k'-1,by have:=zTQ hsx;omega⟩
      have hus:=zLp hsx;have uM:=HP.out;rw [zUF hsx] at uM;have yZ:=qH uM;clear hsx HP uM;have BC:=hsi.stored x true;have gA:=hbi.setCell (p:=⟨w.heap.size,x,none⟩) (Nat.le_refl _) (.bool true);have sE:zBT L (axL L) x < N:=by rw [HN.out];exact h.good.into (by rw [←HN.out];exact hx)
      have hu1:=hsi.unW;go_wp2_with fail
      refine (zRM x base p k A n c L b g2 g3 g4 g6 s P C ids _ (h.next gA) (by rw [←HN.out];exact hx)).mono ?_;rintro e w5 ⟨rfl,aw⟩;have zU:=BC.below aw BC.lt;have B8:=zAa gA aw gA.size;have hu5:=zU.unW;clear BC gA aw hcx hfx hcs;generalize zBT L (axL L) x=x' at sE yZ ⊢;go_wp2_with fail
      go_roundw
      case rel=>exact ⟨x',k',si.set x true,sE,rfl,zU,B8,by omega,yZ⟩
      case measure=>simp only [hu5,hu1];omega
  ·have i3:¬(d:Int) < 2*(n:Int)+2*(m:Int):=by have:=tk.out;omega
   obtain rfl:N=d:=by omega
   have uF:q=(zGI L).length:=by
    have:=HW.out;rw [Nat.sub_self] at this;simpa [zCk] using this
   have HQ:=qH uF;clear uF HW;have hF:=h.next hbw;have e1:=hF.ranks.dia.c3;rw [←HM.out] at e1;have e4:=hF.ranks.dia.c5;have iD:=(hF.vis.drew).run_len 3;have hlen:ids.length=cN L n / 2:=by
    have h1:=hF.vis.len;have h2:=hF.good.visits;rw [cq.out] at h2;rw [h1,h2]
   have hcn:=zQU L n;have hi1:ids.length≤1000:=by omega
   have hf:=qH (show zKW L=decide ((q:Int)=(m:Int)+(ids.length:Int)+2) by
    unfold zKW
    rw [←HQ.out,hlen,HM.out,zFx,cq.out,Bool.eq_iff_iff]
    simp only [beq_iff_eq,decide_eq_true_eq]
    omega)
   clear hlen hF;go_wp2_with fail
   go_region
   all_goals
    go_wp2_with fail
    go_ret;exact ⟨zAk (by rw [hf.out];rfl),hbw.drew⟩
end Go.Proofs.YtlmdfmnbcndhoaaGreatDoor
