/-
  Lemmas, part 29. Conditions: each theorem's own.
-/
import Derived.Test.YtlmdfmnbcndhoaaGreatDoorRi28
import Derived.Test.YtlmdfmnbcndhoaaGreatDoorRi01
import Derived.Test.YtlmdfmnbcndhoaaGreatDoorRi10
import Derived.StillTailTactics
namespace Go.Proofs.YtlmdfmnbcndhoaaGreatDoor
open Go.RowKit
set_option maxHeartbeats 400000 in
theorem zDE (i:Nat) (v:Value) (w:World) (hi:i≤100000) :
  Calls Tryz.prog 213 #[v,.int .i64 i] w fun e w'=>e=.returned (.int .i64 ((2*i:Nat):Int))∧Below w.heap.size w w':=by
 go_enter Tryz.func213,Tryz.ntmps213;go_wp2_with fail
 go_ret;exact ⟨zCf (by omega),Below.refl _ _⟩
set_option maxHeartbeats 400000 in
theorem zDd (i p:Nat) (K:Int) (A:Option Addr) (n c:Nat) (v2 v3 v4 v5 v6:Value) (w:World) (hd:Dia w p K A n c v2 v3 v4 v5 v6) (hi:i < n) (hn:n≤1000) :
  Calls Tryz.prog 212 #[.pointer (some ⟨p,0,none⟩),.int .i64 i] w fun e w'=>e=.returned (.int .i64 ((zCh n i false:Nat):Int))∧Below w.heap.size w w':=by
 have c1:=hd.c1
 have hf:=qH (show ((zCh n i false:Nat):Int)=2*(((i:Int)-1) % n)+1 by
  have e1:((i+n-1:Nat):Int)=(i:Int)-1+n:=by omega
  have e2:(((i+n-1) % n:Nat):Int)=((i:Int)-1+n) % n:=by rw [Int.natCast_emod,e1]
  have e3:((i:Int)-1+n) % n=((i:Int)-1) % n:=by simp
  unfold zCh
  simp only [Bool.false_eq_true,if_false]
  omega)
 have hm0:0≤((i:Int)-1) % n:=Int.emod_nonneg _ (by omega);have hm1:((i:Int)-1) % n < n:=Int.emod_lt_of_pos _ (by omega);go_enter Tryz.func212,Tryz.ntmps212;go_wp2_with fail
 go_ret;exact ⟨zCf (by rw [hf.out]),Below.refl _ _⟩
structure DiaF (w:World) (base p k:Nat) (A:Option Addr) (n c:Nat) (L:List Lt) (b:Nat) (g2 g3 g4 g6:Nat) (s:List Bool) (P C:List Int) (ids:List Int):Prop where
 ranks:DiaR w base p k A n c L (.map (some b)) g2 g3 g4 g6 s P C
 vis:Vis w b L n ids
 lets:Lets w A n L
 good:Good (k:Int) L
 small:n≤400
set_option maxRecDepth 100000 in
set_option maxHeartbeats 3200000 in
theorem zIX (d base p k:Nat) (A:Option Addr) (n c:Nat) (L:List Lt) (b g2 g3 g4 g6:Nat) (s:List Bool) (P C ids:List Int) (w:World) (h:DiaF w base p k A n c L b g2 g3 g4 g6 s P C ids) (hd:d < zCy L) (hge:2*n≤d) :
  Calls Tryz.prog 200 #[.pointer (some ⟨p,0,none⟩),.int .i64 d] w fun e w'=>e=.returned (.int .i64 (zBR L (axL L) d))∧Below w.heap.size w w':=by
 have hn:=h.small;have hLn:L.length=n:=h.lets.len;have hmp:=h.good.m_pos;have hml:(axL L).length≤n:=by rw [zFo,←hLn];exact zMG L _
 have hD:=h.ranks.dia;have c1:=hD.c1;have c2:=hD.c2;have c3:=hD.c3;unfold zCy at hd;rw [hLn] at hd;obtain ⟨m,hm⟩:∃m,m=(axL L).length:=⟨_,rfl⟩
 rw [←hm] at hd hmp hml c3;have HM:=qH hm;have HD:=qH hD;rcases Nat.mod_two_eq_zero_or_one d with h2 | h2
 ·obtain ⟨j,hj⟩:∃j,d=2*n+2*j:=⟨(d-2*n) / 2,by omega⟩
  have hjm:j < m:=by omega
  obtain ⟨t,ht⟩:∃t,t=(j+1) % m:=⟨_,rfl⟩
  have htm:t < m:=by rw [ht];exact Nat.mod_lt _ hmp
  have hx:=zGE (L:=L) (j:=t) (by rw [←hm];exact htm);obtain ⟨v,hv⟩:∃v,v=xat (axL L) t:=⟨_,rfl⟩
  have cx:=h.ranks.axis.cell (zIk (k:=t) (by rw [←hm];exact htm));have cy:=h.ranks.axis.cell (zIk (k:=j) (by rw [←hm];exact hjm));rw [←hv] at cx hx;obtain ⟨y,hy⟩:∃y,y=xat (axL L) j:=⟨_,rfl⟩
  rw [←hy] at cy;have hvn:v < n:=by rw [←hLn];exact hx.2
  have cs:=h.ranks.down.cell hvn;rw [h.ranks.downs v hx.1] at cs
  have hf:=qH (show zBR L (axL L) d=zCh n v (!dwn L v) by
   unfold zBR
   rw [hLn,←hm,if_pos hge,if_pos h2,show (d-2*n) / 2=j by omega,←ht,←hv])
  have q1:((d:Int)-2*(n:Int)) / 2=(j:Int):=by omega
  have q2:((d:Int) % 2==0)=true:=by simp;omega
  have q3:((j:Int)+1) % (m:Int)=(t:Int):=by rw [ht];simp
  have q11:((j:Int)+1).tmod (m:Int)=(t:Int):=by rw [Int.tmod_eq_emod_of_nonneg (by omega)];exact q3
  have q16:IntKind.i64.wrap ((j:Int)+1)=(j:Int)+1:=IntWalk.i64_in _ (by omega);have q17:IntKind.i64.wrap (t:Int)=(t:Int):=IntWalk.i64_in _ (by omega);have q20:¬m=0:=by omega
  have q4:(0:Int)≤(t:Int):=by omega
  have q5:(t:Int) < (m:Int):=by omega
  have q6:(2:Int)*(n:Int)≤(d:Int):=by omega
  have q7:(0:Int)≤(j:Int):=by omega
  have q8:(j:Int) < (m:Int):=by omega
  have q9:(0:Int)≤(v:Int):=by omega
  have q10:(v:Int) < (n:Int):=by omega
  clear ht hv hj h2 hLn hx hm hy hD
  cases hw:dwn L v with
  | false =>
   rw [hw] at hf cs;clear hw;go_enter Tryz.func200,Tryz.ntmps200;go_wp2_with fail
   go_quiet (fail)
   go_wp2_with fail
   generalize hwx:w.drewN nq=wx;have hbx:Below w.heap.size w wx:=by rw [←hwx];exact zAf (Below.refl _ _) _
   have x1:=(hbx.cell (World.block_lt_of_cell? w _ cx)).trans cx;have x2:=(HD.out.next hbx).c3;rw [←HM.out] at x2;have x3:=(hbx.cell (World.block_lt_of_cell? w _ cs)).trans cs;have x4:=(HD.out.next hbx).c2;clear hwx c1 c2 c3 cx cy cs;go_quiet (fail)
   go_wp2_with fail
   refine (zDE v _ _ (by omega)).mono ?_;rintro e w2 ⟨rfl,hb2⟩;have hb3:=zAa (zAf hbx _) hb2 hbx.size;go_wp2_with fail
   go_ret;exact ⟨zCf (by rw [hf.out];simp [zCh]),hb3⟩
  | true =>
   rw [hw] at hf cs;clear hw;go_enter Tryz.func200,Tryz.ntmps200;go_wp2_with fail
   go_quiet (fail)
   go_wp2_with fail
   generalize hwx:w.drewN nq=wx;have hbx:Below w.heap.size w wx:=by rw [←hwx];exact zAf (Below.refl _ _) _
   have x1:=(hbx.cell (World.block_lt_of_cell? w _ cx)).trans cx;have x2:=(HD.out.next hbx).c3;rw [←HM.out] at x2;have x3:=(hbx.cell (World.block_lt_of_cell? w _ cs)).trans cs;have x4:=(HD.out.next hbx).c2;have HDx:=qH (HD.out.next hbx);clear hwx c1 c2 c3 cx cy cs;go_quiet (fail)
   go_wp2_with fail
   refine (zDd v p (k:Int) A n c _ _ _ _ _ _ (Dia.drewN HDx.out _) hvn (by omega)).mono ?_;rintro e w2 ⟨rfl,hb2⟩;have hb3:=zAa (zAf hbx _) hb2 hbx.size;go_wp2_with fail
   go_ret;exact ⟨zCf (by rw [hf.out];simp),hb3⟩
 ·obtain ⟨j,hj⟩:∃j,d=2*n+2*j+1:=⟨(d-2*n) / 2,by omega⟩
  have hjm:j < m:=by omega
  have hx:=zGE (L:=L) (j:=j) (by rw [←hm];exact hjm);obtain ⟨v,hv⟩:∃v,v=xat (axL L) j:=⟨_,rfl⟩
  have cx:=h.ranks.axis.cell (zIk (k:=j) (by rw [←hm];exact hjm));rw [←hv] at cx hx;have hvn:v < n:=by rw [←hLn];exact hx.2
  have cs:=h.ranks.down.cell hvn;rw [h.ranks.downs v hx.1] at cs
  have hf:=qH (show zBR L (axL L) d=zCh n v (dwn L v) by
   unfold zBR
   rw [hLn,if_pos hge,if_neg (by omega),show (d-2*n) / 2=j by omega,←hv])
  have q1:((d:Int)-2*(n:Int)) / 2=(j:Int):=by omega
  have q2:((d:Int) % 2==0)=false:=by simp;omega
  have q6:(2:Int)*(n:Int)≤(d:Int):=by omega
  have q7:(0:Int)≤(j:Int):=by omega
  have q8:(j:Int) < (m:Int):=by omega
  have q9:(0:Int)≤(v:Int):=by omega
  have q10:(v:Int) < (n:Int):=by omega
  clear hv hj h2 hLn hx hm hD
  cases hw:dwn L v with
  | true =>
   rw [hw] at hf cs;clear hw;go_enter Tryz.func200,Tryz.ntmps200;go_wp2_with fail
   go_quiet (fail)
   go_wp2_with fail
   refine (zDE v _ _ (by omega)).mono ?_;rintro e w2 ⟨rfl,hb2⟩;have hb3:=zAa (zAf (Below.refl w.heap.size w) _) hb2 (Nat.le_refl _);go_wp2_with fail
   go_ret;exact ⟨zCf (by rw [hf.out];simp [zCh]),hb3⟩
  | false =>
   rw [hw] at hf cs;clear hw;go_enter Tryz.func200,Tryz.ntmps200;go_wp2_with fail
   go_quiet (fail)
   go_wp2_with fail
   refine (zDd v p (k:Int) A n c _ _ _ _ _ _ (Dia.drewN HD.out _) hvn (by omega)).mono ?_;rintro e w2 ⟨rfl,hb2⟩;have hb3:=zAa (zAf (Below.refl w.heap.size w) _) hb2 (Nat.le_refl _);go_wp2_with fail
   go_ret;exact ⟨zCf (by rw [hf.out]),hb3⟩
theorem zIa {d n v:Nat} (hd:d < 2*n) (hv:v=zBL n d):∃e:Nat,(d:Int) / 2=(e:Int)∧v < n∧((d % 2=0∧((e:Int)+1) % (n:Int)=(v:Int))∨(d % 2=1∧v=e)):=by
 refine ⟨d / 2,by omega,by rw [hv];exact zIz hd,?_⟩;unfold zBL at hv;rcases Nat.mod_two_eq_zero_or_one d with h | h
 ·rw [if_pos h] at hv;exact .inl ⟨h,by rw [hv];simp⟩
 ·rw [if_neg (by omega)] at hv;exact .inr ⟨h,hv⟩
set_option maxRecDepth 100000 in
set_option maxHeartbeats 3200000 in
theorem zIY (d base p k:Nat) (A:Option Addr) (n c:Nat) (L:List Lt) (b g2 g3 g4 g6:Nat) (s:List Bool) (P C ids:List Int) (w:World) (h:DiaF w base p k A n c L b g2 g3 g4 g6 s P C ids) (hlt:d < 2*n) (hc:isP (la L (zBL n d))=true) :
  Calls Tryz.prog 200 #[.pointer (some ⟨p,0,none⟩),.int .i64 d] w fun e w'=>e=.returned (.int .i64 (zBR L (axL L) d))∧Below w.heap.size w w':=by
 have hn:=h.small;have hA:=h.lets;have g:=h.good;have hLn:L.length=n:=hA.len;have hmp:=g.m_pos;have hml:(axL L).length≤n:=by rw [zFo,←hLn];exact zMG L _
 have hD:=h.ranks.dia;have c1:=hD.c1;have c3:=hD.c3;obtain ⟨m,hm⟩:∃m,m=(axL L).length:=⟨_,rfl⟩
 rw [←hm] at hmp hml c3;obtain ⟨v,hv⟩:∃v,v=zBL n d:=⟨_,rfl⟩
 obtain ⟨e,he,hvn,hcase⟩:=zIa hlt hv;rw [←hv] at hc;have hf:=g.left_pass (d:=d) (by omega) (by rw [hLn,←hv];exact hc);rw [hLn,←hv,←hm] at hf;obtain ⟨j,hj⟩:∃j,j=atN L v:=⟨_,rfl⟩
 have hjm:j < m:=by rw [hj,hm];exact g.at_lt hc
 rw [←hj] at hf;obtain ⟨t,ht⟩:∃t,t=(j+m-1) % m:=⟨_,rfl⟩
 have htm:t < m:=by rw [ht];exact Nat.mod_lt _ hmp
 rw [←ht] at hf;have q9:((j:Int)-1+(m:Int)) % (m:Int)=(t:Int):=by
  rw [ht,Int.natCast_emod]
  congr 1
  omega
 have q9b:((j:Int)-1) % (m:Int)=(t:Int):=by rw [←q9];simp
 have hk:(la L v).kind=1:=by unfold isP at hc;simpa using hc
 have cs:=h.ranks.down.cell hvn;rw [h.ranks.downs v hc] at cs;have cp:=h.ranks.place.cell (h.ranks.places v hc);rw [←hj] at cp;obtain ⟨gg,o,rfl,hgl,hx,_⟩:=hA.at_ hvn;obtain ⟨x0,x1,x2,x3,x4,x5⟩:=hx;have q0:decide ((2:Int)*(n:Int)≤(d:Int))=false:=by simp;omega
 have q6:((la L v).kind==1)=true:=by simpa using hk
 have v0:(0:Int)≤(v:Int):=by omega
 have v1:(v:Int) < (n:Int):=by omega
 have l0:=hD.lt;have l1:=h.ranks.down.lt;have l2:=h.ranks.place.lt;have HDD:=qH hD;clear hv hc hk hj ht hm hLn hD q9
 cases hX:dwn L v<;>rcases hcase with ⟨hp,hq⟩ | ⟨hp,hq⟩
 all_goals
  rw [hX] at hf cs;clear hX
  first
   | (have q2:((d:Int) % 2==0)=true:=(by simp;omega)
      have q2':(d % 2==0)=true:=(by simp;omega)
      rw [q2'] at hf
      clear q2')
   | (have q2:((d:Int) % 2==0)=false:=(by simp;omega)
      have q2':(d % 2==0)=false:=(by simp;omega)
      rw [q2'] at hf
      clear q2'
      subst hq)
  have HF:=qH hf;clear hf hp;go_enter Tryz.func200,Tryz.ntmps200;go_wp2_with fail
  go_quiet (fail)
  generalize hwx:w.drewN nq=wx;have hbx:Below w.heap.size w wx:=by rw [←hwx];exact zAf (Below.refl _ _) _
  have y1:=(HDD.out.next hbx).c1;have y2:=(HDD.out.next hbx).c2;have y4:=(HDD.out.next hbx).c4;have ys:=(hbx.cell (World.block_lt_of_cell? w _ cs)).trans cs;have yp:=(hbx.cell (World.block_lt_of_cell? w _ cp)).trans cp;have z0:=(hbx.cell (World.block_lt_of_cell? w _ x0)).trans x0;have z1:=(hbx.cell (World.block_lt_of_cell? w _ x1)).trans x1;have z2:=(hbx.cell (World.block_lt_of_cell? w _ x2)).trans x2;have z3:=(hbx.cell (World.block_lt_of_cell? w _ x3)).trans x3;have z4:=(hbx.cell (World.block_lt_of_cell? w _ x4)).trans x4;have z5:=(hbx.cell (World.block_lt_of_cell? w _ x5)).trans x5;have hzz:=hbx.size;have m0:p < wx.heap.size:=by omega
  have m1:g2 < wx.heap.size:=by omega
  have m2:g4 < wx.heap.size:=by omega
  clear hwx c1 c3 cs cp x0 x1 x2 x3 x4 x5;go_wp2_with fail
  go_ret;exact ⟨zCf (by rw [HF.out];simp),zAa hbx ((Below.refl _ _).alloc (Nat.le_refl _) _) hbx.size⟩
theorem KMap.lookNo {P:Program} {w:World} {k:TypeId} {b:Nat} {kv:List (Value×Value)} (h:KMap w P k b kv) (K:Go.Maps.Keyed P k) {t e:TypeId} (ht:P.underlying t=some (.map k e)) {z:Value} (hz:∀w,(zeroValue e).run P w=.ok z w) {key v:Value} {l:Lit} (hkey:keyOf P k key=some l) (hone:∃j:Nat,kv[j]? = some (key,v)) (huniq:∀(i j:Nat) (u u':Value),kv[i]? = some (key,u)→kv[j]? = some (key,u')→u=u') :
  (Instr.lookup t (.map (some b)) key false).run P w=.ok v w:=by
 rcases h.look K ht (hz w) hkey with ⟨_,h2⟩ | ⟨j,u,h1,h2⟩
 ·obtain ⟨j,hj⟩:=hone;exact absurd rfl (h2 _ (List.mem_of_getElem? hj))
 ·obtain ⟨j',hj'⟩:=hone;rw [h1,huniq j j' u v h2 hj']
theorem Vis.get {w:World} {b n:Nat} {L:List Lt} {ids:List Int} (h:Vis w b L n ids) {d:Int} (hd:I64 d) (ht:0 < tN L d n) :
  (Instr.lookup 146 (.map (some b)) (.int .i64 d) false).run Tryz.prog w=.ok (.agg #[.int .i64 (zAt L d false n),.int .i64 (zAt L d true n)]) w:=by
 obtain ⟨l,hl⟩:=zPg d hd;obtain ⟨j,hj,hje⟩:=List.getElem_of_mem ((h.mem d).2 ht);refine h.map.lookNo zGm Tryz.underlying146 zMe hl ⟨j,by rw [List.getElem?_map,List.getElem?_eq_getElem hj,hje];rfl⟩ (fun i j u u' hi hj=>?_);rw [List.getElem?_map] at hi hj;obtain ⟨d1,e1,f1⟩:=Option.map_eq_some_iff.1 hi;obtain ⟨d2,e2,f2⟩:=Option.map_eq_some_iff.1 hj;simp only [ent,Prod.mk.injEq,Value.int.injEq,true_and] at f1 f2;obtain ⟨rfl,rfl⟩:=f1;obtain ⟨rfl,rfl⟩:=f2;rfl
set_option maxRecDepth 100000 in
set_option maxHeartbeats 3200000 in
theorem zHx (d base p k:Nat) (A:Option Addr) (n c:Nat) (L:List Lt) (b g2 g3 g4 g6:Nat) (s:List Bool) (P C ids:List Int) (w:World) (h:DiaF w base p k A n c L b g2 g3 g4 g6 s P C ids) (hlt:d < 2*n) (hc:isC (la L (zBL n d))=true) :
  Calls Tryz.prog 200 #[.pointer (some ⟨p,0,none⟩),.int .i64 d] w fun e w'=>e=.returned (.int .i64 (zBR L (axL L) d))∧Below w.heap.size w w':=by
 have hn:=h.small;have hA:=h.lets;have g:=h.good;have hLn:L.length=n:=hA.len;have hmp:=g.m_pos;have hml:(axL L).length≤n:=by rw [zFo,←hLn];exact zMG L _
 have hD:=h.ranks.dia;have c1:=hD.c1;have c3:=hD.c3;obtain ⟨m,hm⟩:∃m,m=(axL L).length:=⟨_,rfl⟩
 rw [←hm] at hmp hml c3;obtain ⟨v,hv⟩:∃v,v=zBL n d:=⟨_,rfl⟩
 obtain ⟨e,he,hvn,hcase⟩:=zIa hlt hv;rw [←hv] at hc;have hf:=g.left_cross (d:=d) (by omega) (by rw [hLn,←hv];exact hc);rw [hLn,←hv] at hf;have hov:zJl L v < n:=by rw [←hLn];exact zEB (g.other hc).2.1
 have hlast:=g.last hc;rw [hLn] at hlast;have htp:0 < tN L (la L v).id n:=zJr (i:=v) hvn (by simp [hc]);have hI:=(hA.fits (la L v) (by unfold la;rw [List.getElem?_eq_getElem (by omega)];exact List.getElem_mem _)).id;have hk:(la L v).kind=2:=by unfold isC at hc;simpa using hc
 obtain ⟨gg,o,rfl,hgl,hx,_⟩:=hA.at_ hvn;obtain ⟨x0,x1,x2,x3,x4,x5⟩:=hx;have q0:decide ((2:Int)*(n:Int)≤(d:Int))=false:=by simp;omega
 have q6:((la L v).kind==1)=false:=by simp;omega
 have v0:(0:Int)≤(v:Int):=by omega
 have v1:(v:Int) < (n:Int):=by omega
 have l0:=hD.lt;have HL1:=qH hlast;have HVS:=qH h.vis;have HDD:=qH hD;clear hv hc hk hm hLn hD hlast
 cases hS:((la L v).sign==1)<;>cases hO:(la L v).over<;>rcases hcase with ⟨hp,hq⟩ | ⟨hp,hq⟩
 all_goals
  rw [hO,hS] at hf;rw [hO] at HL1;simp only [Bool.not_true,Bool.not_false] at HL1
  first
   | (have q2:((d:Int) % 2==0)=true:=(by simp;omega)
      have q2':(d % 2==0)=true:=(by simp;omega)
      rw [q2'] at hf
      clear q2')
   | (have q2:((d:Int) % 2==0)=false:=(by simp;omega)
      have q2':(d % 2==0)=false:=(by simp;omega)
      rw [q2'] at hf
      clear q2'
      subst hq)
  have HF:=qH hf;clear hf hp;go_enter Tryz.func200,Tryz.ntmps200;go_wp2_with fail
  go_quiet (fail)
  generalize hwx:w.drewN nq=wx;have hbx:Below w.heap.size w wx:=by rw [←hwx];exact zAf (Below.refl _ _) _
  have hDx:=HDD.out.next hbx;have y1:=hDx.c1;have hVx:=HVS.out.next hbx;have z0:=(hbx.cell (World.block_lt_of_cell? w _ x0)).trans x0;have z1:=(hbx.cell (World.block_lt_of_cell? w _ x1)).trans x1;have z2:=(hbx.cell (World.block_lt_of_cell? w _ x2)).trans x2;have z3:=(hbx.cell (World.block_lt_of_cell? w _ x3)).trans x3;have z4:=(hbx.cell (World.block_lt_of_cell? w _ x4)).trans x4;have z5:=(hbx.cell (World.block_lt_of_cell? w _ x5)).trans x5;have hzz:=hbx.size;have m0:p < wx.heap.size:=by omega
  clear hwx c1 c3 x0 x1 x2 x3 x4 x5;go_wp2_with fail
  generalize hW:wx.alloc _=W;have hbW:Below wx.heap.size wx W:=by rw [←hW];exact (Below.refl _ _).alloc (Nat.le_refl _) _
  have hszW:W.heap.size=wx.heap.size+1:=by rw [←hW];simp
  have hDW:=hDx.next hbW;have hVW:=hVx.next hbW;have u5:=hDW.c5;have hlA:=(hVW.drew).get hI htp;have hlB:=((hVW.alloc (.cells #[.int .i64 0,.int .i64 0] 226)).drew).get hI htp;have w3:W.cell? ⟨wx.heap.size,3,none⟩=some (.int .i64 (la L v).id):=by rw [←hW];rw [(Blk.new wx 76 _).cell 3];rfl
  have w4:W.cell? ⟨wx.heap.size,4,none⟩=some (.int .i64 (la L v).sign):=by rw [←hW];rw [(Blk.new wx 76 _).cell 4];rfl
  have w5:W.cell? ⟨wx.heap.size,5,none⟩=some (.bool (la L v).over):=by rw [hO];rw [←hW];rw [(Blk.new wx 76 _).cell 5];rfl
  clear hW;go_region
  all_goals
   generalize hX2:(World.alloc W _).drew=X2;have hbX:Below W.heap.size W X2:=by rw [←hX2];exact ((Below.refl _ _).alloc (Nat.le_refl _) _).drew
   have hpr:Blk X2 (wx.heap.size+1) 226 #[.int .i64 (zAt L (la L v).id false n),.int .i64 (zAt L (la L v).id true n)]:=by rw [←hX2,←hszW];exact (Blk.new W _ _).drew
   have r0:=hpr.cell 0;have r1:=hpr.cell 1;have s4:=(hbX.cell (World.block_lt_of_cell? W _ w4)).trans w4;have s5:=(hbX.cell (World.block_lt_of_cell? W _ w5)).trans w5;have hDX:=hDW.next hbX;go_wp2_with fail
   rw [HL1.out];have hb1:=zAa hbx hbW hbx.size;have hb2:=zAa hb1 hbX hb1.size;clear hlA hlB hDW hVW hVx hDx u5 w3 w4 w5 y1 z0 z1 z2 z3 z4 z5 r0 r1 s4 s5 hpr hbX hbW hbx
  all_goals
   first
    | (refine (zDE (zJl L v) _ _ (by omega)).mono ?_
       rintro e w2 ⟨rfl,hb3⟩
       have hb4:=zAa hb2 hb3 hb2.size
       go_wp2_with fail
       go_ret
       exact ⟨zCf (by rw [HF.out];simp [zCh]),hb4⟩)
    | (refine (zDd (zJl L v) p (k:Int) (some ⟨gg,o,none⟩) n c _ _ _ _ _ _ hDX hov (by omega)).mono ?_
       rintro e w2 ⟨rfl,hb3⟩
       have hb4:=zAa hb2 hb3 hb2.size
       go_wp2_with fail
       go_ret
       exact ⟨zCf (by rw [HF.out];simp),hb4⟩)
theorem DiaF.next {w w':World} {base p k:Nat} {A:Option Addr} {n c:Nat} {L:List Lt} {b g2 g3 g4 g6:Nat} {s:List Bool} {P C ids:List Int} (h:DiaF w base p k A n c L b g2 g3 g4 g6 s P C ids) (hb:Below w.heap.size w w'):DiaF w' base p k A n c L b g2 g3 g4 g6 s P C ids :=
 ⟨⟨h.ranks.dia.next hb,h.ranks.down.below hb h.ranks.down.lt,h.ranks.axis.below hb h.ranks.axis.lt,h.ranks.place.below hb h.ranks.place.lt,h.ranks.count.below hb h.ranks.count.lt,h.ranks.downs,h.ranks.places,h.ranks.counts,h.ranks.ndown⟩,h.vis.next hb,h.lets.below hb,h.good,h.small⟩
theorem zRj (d base p k:Nat) (A:Option Addr) (n c:Nat) (L:List Lt) (b g2 g3 g4 g6:Nat) (s:List Bool) (P C ids:List Int) (w:World) (h:DiaF w base p k A n c L b g2 g3 g4 g6 s P C ids) (hd:d < zCy L) :
  Calls Tryz.prog 200 #[.pointer (some ⟨p,0,none⟩),.int .i64 d] w fun e w'=>e=.returned (.int .i64 (zBR L (axL L) d))∧Below w.heap.size w w':=by
 have hl:=h.lets.len;rcases Nat.lt_or_ge d (2*n) with hlt | hge
 ·rcases h.good.kinds (zBL n d) (by rw [hl];exact zIz hlt) with hp | hc
  ·exact zIY d base p k A n c L b g2 g3 g4 g6 s P C ids w h hlt hp
  ·exact zHx d base p k A n c L b g2 g3 g4 g6 s P C ids w h hlt hc
 ·exact zIX d base p k A n c L b g2 g3 g4 g6 s P C ids w h hd hge
def unW (w:World) (g:Nat):Nat :=
 match w.heap[g]? with
 | some (.cells cs _ _)=>cs.toList.countP (fun v=>match v with | .bool b=>!b | _=>false)
 | _=>0
theorem OwnB.unW {w:World} {base g n:Nat} {s:List Bool} (h:OwnB w base g n s):unW w g=unN s:=by
 have hb:=h.blk;unfold Blk at hb;unfold Proofs.YtlmdfmnbcndhoaaGreatDoor.unW unN;rw [hb];simp only [List.countP_map];rfl
theorem Good.visits {K:Int} {L:List Lt} (g:Good K L):dN L L.length=cN L L.length / 2:=by
 refine zUQ ?_;unfold zBA;simp only [Bool.and_eq_true,decide_eq_true_eq,zAE];exact ⟨g.ceven,g.cross⟩
theorem zTS {f:Nat→Nat} {k:Nat} {s:List Bool} {x:Nat} (h:sat s x=true):zEd f k s x=([],s):=by
 cases k with
 | zero=>rfl
 | succ k=>unfold zEd;rw [if_pos h]
theorem zTT {f:Nat→Nat} {k:Nat} {s:List Bool} {x:Nat} (h:sat s x=false):zEd f (k+1) s x=(x :: (zEd f k (s.set x true) (f x)).1,(zEd f k (s.set x true) (f x)).2):=by
 conv=>lhs;unfold zEd
 rw [if_neg (by rw [h];simp)]
theorem zVp {f:Nat→Nat} {d k:Nat} {s:List Bool} (h:sat s d=true):zCi f (List.range' d (k+1)) s=zCi f (List.range' (d+1) k) s:=by
 rw [List.range'_succ];conv=>lhs;unfold zCi
 rw [if_pos h]
theorem zWr {f:Nat→Nat} {d k:Nat} {s:List Bool} (h:sat s d=false):zCi f (List.range' d (k+1)) s=(zEd f s.length s d).1 :: zCi f (List.range' (d+1) k) (zEd f s.length s d).2:=by
 rw [List.range'_succ];conv=>lhs;unfold zCi
 rw [if_neg (by rw [h];simp)]
set_option maxRecDepth 100000 in
set_option maxHeartbeats 3200000 in
theorem zMf (base p k:Nat) (A:Option Addr) (n c:Nat) (L:List Lt) (b g2 g3 g4 g6:Nat) (s:List Bool) (P C ids:List Int) (w:World) (h:DiaF w base p k A n c L b g2 g3 g4 g6 s P C ids) :
  Calls Tryz.prog 179 #[.pointer (some ⟨p,0,none⟩)] w fun e w'=>e=.returned (.bool (zKz L))∧Below w.heap.size w w':=by
 have hn400:=h.small;have hLn:=qH h.lets.len;have hD:=h.ranks.dia;obtain ⟨m,hm⟩:∃m,m=(axL L).length:=⟨_,rfl⟩
 have hmn:m≤n:=by rw [hm,zFo,hLn.out];exact zMG L n
 obtain ⟨N,hN⟩:∃N,N=zCy L:=⟨_,rfl⟩
 have hNe:N=2*n+2*m:=by rw [hN,hm];unfold zCy;rw [hLn.out]
 have hNle:N≤17592186044416:=by omega
 have c1:=hD.c1;have c3:=hD.c3;rw [←hm] at c3;have HM:=qH hm;have HN:=qH hN;have HNE:=qH hNe;have hW:Hid (0+(zCi (zBR L (axL L)) (List.range' 0 (N-0)) (List.replicate N false)).length=(zGv L).length):=by
  show _=_;rw [Nat.zero_add,Nat.sub_zero,←List.range_eq_range',hN];rfl
 clear hm hN hNe hD;go_enter Tryz.func179,Tryz.ntmps179;go_wp2_with fail
 go_quiet (fail)
 generalize hwx:w.drewN nq=wx;have hbx:Below w.heap.size w wx:=by rw [←hwx];exact zAf (Below.refl _ _) _
 have hzx:w.heap.size=wx.heap.size:=by rw [←hwx];rfl
 have hHZ:=qH hzx;clear hwx hzx;go_wp2_with (at_make;refine zNT rfl _ _ rfl N _ rfl rfl (by have:=HNE.out;omega) hNle (Nat.le_refl _) ?_;rw [←hHZ.out];intro ws hs0 hbs0' hzs)
 have hbs0:Below w.heap.size w ws:=hbx.trans hbs0';clear c1 c3 hbs0' hbx;go_loopw [5,6,7,25] (fun v5 _ _ v25 wr=>∃(d q:Nat) (s':List Bool),d≤N∧q≤d∧v25=.int .i64 d∧v5=.int .i64 q∧OwnB wr w.heap.size w.heap.size N s'∧Below w.heap.size w wr∧Hid (q+(zCi (zBR L (axL L)) (List.range' d (N-d)) s').length=(zGv L).length)) (fun _ _ _ v25 _=>N-(intOf v25).toNat)
 case atStart=>exact ⟨0,0,List.replicate N false,Nat.zero_le _,Nat.le_refl _,rfl,rfl,hs0,hbs0,hW⟩
 case round =>
  obtain ⟨d,q,s',hd,hqd,rfl,rfl,hs,hbw,HW⟩:=hrel;clear hs0 hW hbs0;by_cases hdN:d < N
  ·have hcs:=hs.cell hdN;have i0:(0:Int)≤(d:Int):=by omega
   have i1:(d:Int) < (N:Int):=by omega
   have i2:(d:Int) < 2*(n:Int)+2*(m:Int):=by have:=HNE.out;omega
   cases hsd:sat s' d with
   | true =>
    rw [hsd] at hcs
    have HW':=qH (show q+(zCi (zBR L (axL L)) (List.range' (d+1) (N-(d+1))) s').length=(zGv L).length by
     rw [←HW.out,show N-d=N-(d+1)+1 by omega,zVp hsd])
    clear hsd HW;go_wp2_with fail
    go_roundw
    case rel=>exact ⟨d+1,q,s',by omega,by omega,by go_num,rfl,hs,hbw,HW'⟩
    case measure=>simp [intOf];omega
   | false =>
    rw [hsd] at hcs
    have hHW:=qH (show q+1+(zCi (zBR L (axL L)) (List.range' (d+1) (N-(d+1))) (zEd (zBR L (axL L)) N s' d).2).length=(zGv L).length by
     rw [←HW.out,show N-d=N-(d+1)+1 by omega,zWr hsd,hs.len];simp;omega)
    clear hsd HW;have hu0:unN s'≤N:=by rw [←hs.len];exact zUS s'
    go_wp2_with fail
    obtain ⟨wo,rfl⟩:∃wo:World,wo=wr:=⟨_,rfl⟩
    go_loopw [7] (fun v7 wi=>∃(x k:Nat) (si:List Bool),x < N∧v7=.int .i64 x∧OwnB wi w.heap.size w.heap.size N si∧Below w.heap.size w wi∧unN si≤k∧Hid ((zEd (zBR L (axL L)) k si x).2=(zEd (zBR L (axL L)) N s' d).2)) (fun _ wi=>unW wi w.heap.size)
    case atStart=>exact ⟨d,N,s',hdN,rfl,hs,hbw,hu0,qH rfl⟩
    case round =>
     obtain ⟨x,k',si,hx,rfl,hsi,hbi,huk,HP⟩:=hrel;have j0:(0:Int)≤(x:Int):=by omega
     have j1:(x:Int) < (N:Int):=by omega
     have hcx:=hsi.cell hx;have hfx:=hsi.frozen x
     cases hsx:sat si x with
     | true =>
      rw [hsx] at hcx;have hHP:=HP.out;rw [zTS hsx] at hHP
      have hHW3:=qH (show q+1+(zCi (zBR L (axL L)) (List.range' (d+1) (N-(d+1))) si).length=(zGv L).length by
       rw [←hHW.out,←hHP])
      clear hsx HP hHP hHW hs hbw;go_wp2_with fail
      go_roundw
      case rel=>exact ⟨d+1,q+1,si,by omega,by omega,by go_num,by go_num,hsi,hbi,hHW3⟩
      case measure=>simp [intOf];omega
     | false =>
      rw [hsx] at hcx;obtain ⟨k',rfl⟩:∃k'',k'=k''+1:=⟨k'-1,by have:=zTh hsx;omega⟩
      have hus:=zKR hsx;have hHP:=HP.out;rw [zTT hsx] at hHP;have HP2:=qH hHP;clear hsx HP hHP;have hsS:=hsi.stored x true;have hbS:=hbi.setCell (p:=⟨w.heap.size,x,none⟩) (Nat.le_refl _) (.bool true);have hx':zBR L (axL L) x < N:=by rw [HN.out];exact h.good.into (by rw [←HN.out];exact hx)
      have hu1:=hsi.unW;go_wp2_with fail
      refine (zRj x base p k A n c L b g2 g3 g4 g6 s P C ids _ (h.next hbS) (by rw [←HN.out];exact hx)).mono ?_;rintro e w5 ⟨rfl,hb5⟩;have hs5:=hsS.below hb5 hsS.lt;have hb5':=zAa hbS hb5 hbS.size;have hu5:=hs5.unW;clear hsS hbS hb5 hcx hfx hcs;generalize zBR L (axL L) x=x' at hx' HP2 ⊢;go_wp2_with fail
      go_roundw
      case rel=>exact ⟨x',k',si.set x true,hx',rfl,hs5,hb5',by omega,HP2⟩
      case measure=>simp only [hu5,hu1];omega
  ·have i3:¬(d:Int) < 2*(n:Int)+2*(m:Int):=by have:=HNE.out;omega
   obtain rfl:N=d:=by omega
   have hWs:q=(zGv L).length:=by
    have:=HW.out;rw [Nat.sub_self] at this;simpa [zCi] using this
   have HQ:=qH hWs;clear hWs HW;have hF:=h.next hbw;have e1:=hF.ranks.dia.c3;rw [←HM.out] at e1;have e4:=hF.ranks.dia.c5;have hl1:=(hF.vis.drew).run_len 3;have hlen:ids.length=cN L n / 2:=by
    have h1:=hF.vis.len;have h2:=hF.good.visits;rw [hLn.out] at h2;rw [h1,h2]
   have hcn:=zQt L n;have hi1:ids.length≤1000:=by omega
   have hf:=qH (show zKz L=decide ((q:Int)=(m:Int)+(ids.length:Int)+2) by
    unfold zKz
    rw [←HQ.out,hlen,HM.out,zFo,hLn.out,Bool.eq_iff_iff]
    simp only [beq_iff_eq,decide_eq_true_eq]
    omega)
   clear hlen hF;go_wp2_with fail
   go_region
   all_goals
    go_wp2_with fail
    go_ret;exact ⟨zAl (by rw [hf.out];rfl),hbw.drew⟩
end Go.Proofs.YtlmdfmnbcndhoaaGreatDoor
