/-
  Lemmas, part 48. Conditions: each theorem's own.
-/
import Derived.Test.YtlmdfmnbcndhoaaGreatDoorRq47
open Option renaming none→U,some→Z
open Go.Value renaming bool→G,int→D,slice→H,string→W
open Go.IntKind renaming i64→J
open Bool renaming false→E,true→Q
namespace Go.Proofs.YtlmdfmnbcndhoaaGreatDoor
open Go.RowKit
theorem zTh {K:Int} {kk:Nat} {L:List Lt} (p:PosP K L) {x:Lq} (hx:x∈zFd L kk) :
  1≤x.f∧x.f≤(kk:Int)∧1≤x.nu∧x.nu≤(L.length:Int)∧∃l r:Nat,x.l=(l:Int)∧x.r=(r:Int)∧l < L.length∧r < L.length:=by
 obtain ⟨g,k,i,hg,hk,rfl⟩:=zQY hx;have h1:=(zDA.1 (zDz.1 (List.mem_of_getElem? hk)).2).1;obtain ⟨h2,h3⟩:=zVy p h1;have h4:=zMx (L:=L) (g:=(g:Int)+1) L.length;have h5:=(List.getElem?_eq_some_iff.1 hk).1;unfold zEi;simp only;exact ⟨by omega,by omega,by omega,by omega,liN L i,riN L i,rfl,rfl,h2,h3⟩
theorem zTL {L:List Lt}:∀m:Nat,(zFd L m).length≤m*L.length
 | 0=>by simp [zFd]
 | m+1=>by
  rw [zLd,List.length_append,zJX];have h1:=zTL (L:=L) m;have h2:=zMx (L:=L) (g:=(m:Int)+1) L.length;rw [Nat.add_mul];omega
def qa (M:List Lq) (q:Nat):Lq:=(M[q]?).getD lqZ
theorem zRk {M:List Lq} {q:Nat} (h:q < M.length):M[q]? = Z (qa M q):=by unfold qa;rw [List.getElem?_eq_getElem h];rfl
theorem zVD {M:List Lq} {q:Nat} (h:q < M.length):M.take (q+1)=M.take q++[qa M q]:=by rw [List.take_add_one,zRk h];rfl
theorem zVE {w:World} {base c N:Nat} {B:Option Addr} {M:List Lq} {q:Nat} (h:Row w base 4 B N c (M.flatMap zCI)) (hq:q < M.length) (hN:q < N) :
  ∃g o,B=Z ⟨g,o,U⟩∧g < w.heap.size∧w.cell? ⟨g,o+q*4,U⟩=Z (D J (qa M q).f)∧w.cell? ⟨g,o+q*4+1,U⟩=Z (D J (qa M q).nu)∧w.cell? ⟨g,o+q*4+2,U⟩=Z (D J (qa M q).l)∧w.cell? ⟨g,o+q*4+3,U⟩=Z (D J (qa M q).r):=by
 obtain ⟨g,o,rfl,_,hlt⟩:=h.form (by omega);have key:∀t u,t < 4→(zCI (qa M q))[t]? = Z u→w.cell? ⟨g,o+q*4+t,U⟩=Z u:=fun t u ht hu=>by
  have h1:=zEP zCI 4 zEw _ q t _ (zRk hq) ht;have h2:=h.cell (j:=q*4+t) (u:=u) (by rw [h1];exact hu)
  rwa [show o+(q*4+t)=o+q*4+t by omega] at h2
 exact ⟨g,o,rfl,hlt,key 0 _ (by omega) rfl,key 1 _ (by omega) rfl,key 2 _ (by omega) rfl,key 3 _ (by omega) rfl⟩
theorem zXZ {n:Nat} {x:Lq} (h:n≠2) (e:(x.l+1) % (n:Int)=x.r):zKd n x=x.l:=by unfold zKd;rw [if_neg h,if_pos e]
theorem zYa {n:Nat} {x:Lq} (h:n≠2) (e:(x.l+1) % (n:Int)≠x.r):zKd n x=x.r:=by unfold zKd;rw [if_neg h,if_neg e]
theorem zYb (x:Lq):zKd 2 x=0:=by unfold zKd;rw [if_pos rfl]
set_option maxHeartbeats 12800000 in
set_option maxRecDepth 100000 in
theorem zJZ (A:Option Addr) (n c:Nat) (F:List Fg) (re lo:Int) (K:Int) (B:Option Addr) (m d:Nat) (L:List Lt) (w:World) (hA:Fgs w A n F) (hB:Lets w B m L) (hE:zBr F re lo K L=0) :
  Calls Tryz.prog 35 #[frV A n c re lo,.agg #[D J K,H B m d]] w fun e w'=>e=.returned (W (bA (zLo F L)))∧Below w.heap.size w w':=by
 have aZ:=qH hB.len;have eT:=qH hA.len;have HA:=qH hA;have HL:=qH hB;have HB:=qH (Below.refl w.heap.size w);by_cases hm0:m=0
 ·subst hm0;have HR:=qH (show zLo F L=zIq by unfold zLo;rw [if_pos aZ.out]);clear hA hB hE;go_enter Tryz.func35,Tryz.ntmps35;have hba:Below w.heap.size w ((w.alloc (.cells #[H A n c,D J re,D J lo] 24)).alloc (.cells #[D J K,H B 0 d] 55)):=((Below.refl _ _).alloc (Nat.le_refl _) _).alloc (by simp) _;replace HA:=qH (HA.out.below hba);replace HL:=qH (HL.out.below hba);replace HB:=qH (zAa HB.out hba HB.out.size);have kf:=(Blk.new w 24 #[H A n c,D J re,D J lo]).alloc (.cells #[D J K,H B 0 d] 55);have ks:Blk ((w.alloc (.cells #[H A n c,D J re,D J lo] 24)).alloc (.cells #[D J K,H B 0 d] 55)) (w.heap.size+1) 55 #[D J K,H B 0 d]:=heap_alloc2_new w _ _;clear hba;go_upto_region 1 with fail
  generalize (w.alloc (.cells #[H A n c,D J re,D J lo] 24)).alloc (.cells #[D J K,H B 0 d] 55)=X at HA HL HB kf ks ⊢;have d0:X.cell? ⟨w.heap.size+1,0,U⟩=Z (D J K):=(ks.cell 0).trans rfl;have d1:X.cell? ⟨w.heap.size+1,1,U⟩=Z (H B 0 d):=(ks.cell 1).trans rfl;go_wp2_with fail
  go_ret;exact ⟨by rw [HR.out];rfl,HB.out⟩
 ·obtain ⟨hp,hfo,vM,xD,_⟩:=zVh (zIT.1 hE) (by rw [aZ.out];omega);rw [aZ.out] at xD
  have lz:=(zCz.1 (show frB F re lo=Q by
   have h1:=zIT.1 hE
   unfold zBG at h1
   simp only [Bool.and_eq_true] at h1
   exact h1.1.1.1)).1
  obtain ⟨kk,hkk⟩:∃k,F.length=k:=⟨_,rfl⟩
  rw [hkk] at vM lz;obtain ⟨M,hM⟩:∃M,zFd L kk=M:=⟨_,rfl⟩
  have HKN:=qH (show kk=n from hkk.symm.trans eT.out);have HK:=qH vM;have HP:=qH hp;have lF:=qH hfo.tok;have HM:=qH hM
  have Co:=qH (show ∀x∈M,1≤x.f∧x.f≤(n:Int)∧1≤x.nu∧x.nu≤(m:Int)∧∃l r:Nat,x.l=(l:Int)∧x.r=(r:Int)∧l < m∧r < m from fun x hx=>by
   have h1:=zTh hp (kk:=kk) (x:=x) (by rw [hM];exact hx)
   rw [aZ.out,HKN.out] at h1
   exact h1)
  have HML:=qH (show M.length≤16000 by
   have h1:=zTL (L:=L) kk
   rw [hM,aZ.out] at h1
   have h2:kk*m≤40*400:=Nat.mul_le_mul lz xD
   omega)
  have HOF:=qH (fun (wx:World) (hx:Lets wx B m L)=>(show Calls Tryz.prog 77 #[.agg #[D J K,H B m d]] wx (ofG wx wx M) by
   have:=zVC K kk B m d L wx hx hp vM xD (by omega)
   rw [hM] at this
   exact this))
  have B6:=qH (show zLo F L=zMz F L m by unfold zLo zMz;rw [aZ.out,if_neg hm0]);have nH:=qH (show ([]:List UInt8)=zMz F L 0 by unfold zMz zDH;simp [Lib.join_nil]);have vd:0 < m:=by omega
  have HOS:=qH (show ∀i,i < m→zMz F L (i+1)=if zGU F m i (zMy L i) M=[] then zMz F L i else zMz F L i++(if 0 < i then [32] else [])++zGU F m i (zMy L i) M from fun i hi=>by
   have:=hp.out_succ (F:=F) (m:=kk) vM (i:=i) (by rw [aZ.out];exact hi)
   rw [aZ.out,hM] at this
   exact this)
  have wU:=qH (show ∀i,i < m→isC (la L i)=Q→I64 (la L i).id from fun i hi hc=>by
   have h1:=hp.ids (by rw [aZ.out];exact hi) hc
   have h2:=zJd L L.length
   rw [aZ.out] at h1 h2
   exact ⟨by omega,by omega⟩)
  have j00:((m:Int)==0)=E:=by simp;omega
  clear hA hB hE hp hfo vM hkk hM lz hm0;go_enter Tryz.func35,Tryz.ntmps35;have hba:Below w.heap.size w ((w.alloc (.cells #[H A n c,D J re,D J lo] 24)).alloc (.cells #[D J K,H B m d] 55)):=((Below.refl _ _).alloc (Nat.le_refl _) _).alloc (by simp) _;replace HA:=qH (HA.out.below hba);replace HL:=qH (HL.out.below hba);replace HB:=qH (zAa HB.out hba HB.out.size);have kf:=(Blk.new w 24 #[H A n c,D J re,D J lo]).alloc (.cells #[D J K,H B m d] 55);have ks:Blk ((w.alloc (.cells #[H A n c,D J re,D J lo] 24)).alloc (.cells #[D J K,H B m d] 55)) (w.heap.size+1) 55 #[D J K,H B m d]:=heap_alloc2_new w _ _;clear hba;go_upto_region 1 with fail
  generalize (w.alloc (.cells #[H A n c,D J re,D J lo] 24)).alloc (.cells #[D J K,H B m d] 55)=X at HA HL HB kf ks ⊢;have c0:X.cell? ⟨w.heap.size,0,U⟩=Z (H A n c):=(kf.cell 0).trans rfl;have c1:X.cell? ⟨w.heap.size,1,U⟩=Z (D J re):=(kf.cell 1).trans rfl;have c2:X.cell? ⟨w.heap.size,2,U⟩=Z (D J lo):=(kf.cell 2).trans rfl;have d0:X.cell? ⟨w.heap.size+1,0,U⟩=Z (D J K):=(ks.cell 0).trans rfl;have d1:X.cell? ⟨w.heap.size+1,1,U⟩=Z (H B m d):=(ks.cell 1).trans rfl;go_wp2_with fail
  refine (HOF.out _ HL.out).mono ?_;rintro e Y ⟨B2,m2,d2,rfl,ft,da,hb⟩;clear c0 c1 c2 d0 d1;replace HA:=qH (HA.out.below hb);replace HL:=qH (HL.out.below hb);replace HB:=qH (zAa HB.out hb HB.out.size);replace kf:=kf.below hb kf.lt;replace ks:=ks.below hb ks.lt;clear hb;have HR:=qH ft;have jt:=qH da;have Dv:m2≤16000:=by have h1:=HML.out;omega
  clear ft da;have c0:Y.cell? ⟨w.heap.size,0,U⟩=Z (H A n c):=(kf.cell 0).trans rfl;have c1:Y.cell? ⟨w.heap.size,1,U⟩=Z (D J re):=(kf.cell 1).trans rfl;have c2:Y.cell? ⟨w.heap.size,2,U⟩=Z (D J lo):=(kf.cell 2).trans rfl;have d0:Y.cell? ⟨w.heap.size+1,0,U⟩=Z (D J K):=(ks.cell 0).trans rfl;have d1:Y.cell? ⟨w.heap.size+1,1,U⟩=Z (H B m d):=(ks.cell 1).trans rfl;go_wp2_with fail
  clear c0 c1 c2 d0 d1;go_loopw [6,7] (fun v6 v7 wr=>∃(i:Nat) (T:List UInt8),i≤m∧v7=D J i∧v6=W (bA T)∧Below Y.heap.size Y wr∧Hid (T=zMz F L i)∧T.length≤i*101) (fun _ v7 _=>m-(intOf v7).toNat)
  case atStart=>exact ⟨0,[],Nat.zero_le _,rfl,rfl,Below.refl _ _,nH,by simp⟩
  case round =>
   obtain ⟨i,T,hi,rfl,rfl,hbr,dt,tD⟩:=hrel;have kY:=qH hbr;replace HA:=qH (HA.out.below hbr);replace HL:=qH (HL.out.below hbr);replace HB:=qH (zAa HB.out hbr HB.out.size);replace kf:=kf.below hbr kf.lt;replace ks:=ks.below hbr ks.lt;replace HR:=qH (HR.out.below hbr);clear hbr nH;have c0:wr.cell? ⟨w.heap.size,0,U⟩=Z (H A n c):=(kf.cell 0).trans rfl;have c1:wr.cell? ⟨w.heap.size,1,U⟩=Z (D J re):=(kf.cell 1).trans rfl;have c2:wr.cell? ⟨w.heap.size,2,U⟩=Z (D J lo):=(kf.cell 2).trans rfl;have d0:wr.cell? ⟨w.heap.size+1,0,U⟩=Z (D J K):=(ks.cell 0).trans rfl;have d1:wr.cell? ⟨w.heap.size+1,1,U⟩=Z (H B m d):=(ks.cell 1).trans rfl;by_cases hlt:i < m
   ·have j0:(0:Int)≤(i:Int):=by omega
    have j1:(i:Int) < (m:Int):=by omega
    obtain ⟨g,o,rfl,hg,hat,_⟩:=HL.out.at_ hlt;obtain ⟨l,hle⟩:∃l,la L i=l:=⟨_,rfl⟩
    rw [hle] at hat;obtain ⟨x0,x1,x2,x3,x4,x5⟩:=hat;have fk:=qH hle;have kX:=wU.out i hlt;rw [hle] at kX;have kX:=qH kX;have tY:=qH (HOS.out i hlt);clear hle hg;have hba:=(Below.refl wr.heap.size wr).alloc (Nat.le_refl _) (.cells #[D J l.kind,D J l.gate,D J l.rank,D J l.id,D J l.sign,G l.over] 76);replace HA:=qH (HA.out.below hba);replace HL:=qH (HL.out.below hba);replace HB:=qH (zAa HB.out hba HB.out.size);replace kf:=kf.below hba kf.lt;replace ks:=ks.below hba ks.lt;replace HR:=qH (HR.out.below hba);replace kY:=qH (zAa kY.out hba kY.out.size);have kl:=Blk.new wr 76 #[D J l.kind,D J l.gate,D J l.rank,D J l.id,D J l.sign,G l.over];clear hba;go_upto_region 9 with fail
    clear c0 c1 c2 d0 d1;generalize wr.alloc (.cells #[D J l.kind,D J l.gate,D J l.rank,D J l.id,D J l.sign,G l.over] 76)=X1 at HA HL HB kf ks HR kY kl ⊢;clear x0 x1 x2 x3 x4 x5;generalize wr.heap.size=a9 at kl ⊢;obtain ⟨IB,AS⟩:∃S,zMy L i=S:=⟨_,rfl⟩
    rw [AS] at tY;have oJ:=qH AS;clear AS;have z0:X1.cell? ⟨a9,0,U⟩=Z (D J l.kind):=(kl.cell 0).trans rfl;have z1:X1.cell? ⟨a9,1,U⟩=Z (D J l.gate):=(kl.cell 1).trans rfl;have z2:X1.cell? ⟨a9,2,U⟩=Z (D J l.rank):=(kl.cell 2).trans rfl;have z3:X1.cell? ⟨a9,3,U⟩=Z (D J l.id):=(kl.cell 3).trans rfl;have z4:X1.cell? ⟨a9,4,U⟩=Z (D J l.sign):=(kl.cell 4).trans rfl;have z5:X1.cell? ⟨a9,5,U⟩=Z (G l.over):=(kl.cell 5).trans rfl;go_upto_if 32 with fail
    clear z0 z1 z2 z3 z4 z5;go_cut [9] (fun v wv=>v=W (bA IB)∧IB.length≤100∧∃V:World,V=wv∧Below X1.heap.size X1 V)
    case first =>
     by_cases hk:l.kind=2
     ·have q2:(l.kind==2)=Q:=by simpa using hk
      have hc:isC (la L i)=Q:=by rw [fk.out];exact zKl hk
      have hI:=kX.out (by rw [←fk.out];exact hc);obtain ⟨lid,hlid⟩:∃x,l.id=x:=⟨_,rfl⟩
      obtain ⟨lov,hlov⟩:∃x,l.over=x:=⟨_,rfl⟩
      have z0:X1.cell? ⟨a9,0,U⟩=Z (D J l.kind):=(kl.cell 0).trans rfl
      have HZ:=qH (show ∀wx,Below X1.heap.size X1 wx→(wx.cell? ⟨a9,3,U⟩=Z (D J lid)∧wx.cell? ⟨a9,5,U⟩=Z (G lov)) from
       fun wx h=>⟨((kl.below h kl.lt).cell 3).trans (by rw [←hlid];rfl),((kl.below h kl.lt).cell 5).trans (by rw [←hlov];rfl)⟩)
      rw [hlid] at hI;obtain ⟨NU,oq⟩:∃S,Lib.itoa lid=S:=⟨_,rfl⟩
      obtain ⟨EI,oA⟩:∃S:List UInt8,(if lov then [111] else [117])=S:=⟨_,rfl⟩
      have hnl:=zBb hI;rw [oq] at hnl;have hel:EI.length=1:=by rw [←oA];cases lov<;>rfl
      have hib:NU++EI=IB:=by
       rw [←oJ.out];unfold zMy zUP
       rw [if_pos hc,fk.out,hlid,hlov,oq,←oA]
       cases lov<;>rfl
      have D0:(if lov then (⟨#[111]⟩:ByteArray) else ⟨#[117]⟩)=bA EI:=by rw [←oA];cases lov<;>rfl
      have hil:IB.length≤100:=by rw [←hib,List.length_append];omega
      have r1:=zAF hib _ _ rfl rfl (by omega) (by omega);have Cj:=qH (fun w=>zKZ oq hI w);have CC:=qH D0;have md:=qH hil;clear hk hc hI hlid hlov oq oA hnl hel hib D0 hil kX oJ;go_upto_region 11 with fail
      clear z0;have k0:∀wx,Below X1.heap.size X1 wx→(Below X1.heap.size X1 wx∧wx.cell? ⟨a9,3,U⟩=Z (D J lid)∧wx.cell? ⟨a9,5,U⟩=Z (G lov)):=fun wx h=>⟨h,(HZ.out _ h).1,(HZ.out _ h).2⟩
      have KP:=qH k0;clear k0;have Bb:=(KP.out X1 (Below.refl _ _)).2.1;have Ba:=(KP.out X1 (Below.refl _ _)).2.2
      first
       | go_region_held3 (fun wx=>Below X1.heap.size X1 wx∧wx.cell? ⟨a9,3,U⟩=Z (D J lid)∧wx.cell? ⟨a9,5,U⟩=Z (G lov)) (first | assumption | exact KP.out _ (Below.refl _ _).drew | exact KP.out _ (zAa (And.left (by assumption)) (by assumption) (Below.size (And.left (by assumption)))))
         (first
          | (go_at_call 78;refine (Cj.out _).mono ?_;rintro e wa ⟨rfl,hba⟩)
          | (go_at_call 64;refine (zKY CC.out _).mono ?_;rintro e wc ⟨rfl,rfl⟩))
       | fail
      all_goals
       have hbf:=And.left (show Below X1.heap.size X1 _∧_ by assumption);clear Bb Ba;go_wp2_with fail
       go_meet
       case rel=>exact ⟨rfl,md.out,_,rfl,hbf⟩
     ·have q2:(l.kind==2)=E:=by simpa using hk
      have hc:isC (la L i)=E:=by rw [fk.out];exact zKm hk
      obtain rfl:IB=[]:=by rw [←oJ.out];unfold zMy;rw [if_neg (by rw [hc];simp)]
      have z0:X1.cell? ⟨a9,0,U⟩=Z (D J l.kind):=(kl.cell 0).trans rfl;clear hk hc;go_wp2_with fail
      go_meet
      case rel=>exact ⟨rfl,by simp,_,rfl,Below.refl _ _⟩
    case rest =>
     obtain ⟨rfl,hibl,V,hV,hb⟩:=hcut;subst hV;clear kl;replace HA:=qH (HA.out.below hb);replace HL:=qH (HL.out.below hb);replace HB:=qH (zAa HB.out hb HB.out.size);replace kf:=kf.below hb kf.lt;replace ks:=ks.below hb ks.lt;replace HR:=qH (HR.out.below hb);replace kY:=qH (zAa kY.out hb kY.out.size);clear hb kX oJ fk;have vl:Hid (IB=zGU F m i IB (M.take 0)):=qH (by simp [zGU]);have c0:V.cell? ⟨w.heap.size,0,U⟩=Z (H A n c):=(kf.cell 0).trans rfl;have c1:V.cell? ⟨w.heap.size,1,U⟩=Z (D J re):=(kf.cell 1).trans rfl;have c2:V.cell? ⟨w.heap.size,2,U⟩=Z (D J lo):=(kf.cell 2).trans rfl;have d0:V.cell? ⟨w.heap.size+1,0,U⟩=Z (D J K):=(ks.cell 0).trans rfl;have d1:V.cell? ⟨w.heap.size+1,1,U⟩=Z (H (Z ⟨g,o,U⟩) m d):=(ks.cell 1).trans rfl;go_wp2_with fail
     clear c0 c1 c2 d0 d1;go_loopw [9,10] (fun v9 v10 wq=>∃(q:Nat) (IT:List UInt8),q≤m2∧v10=D J q∧v9=W (bA IT)∧Below V.heap.size V wq∧Hid (IT=zGU F m i IB (M.take q))∧IT.length≤100) (fun _ v10 _=>m2-(intOf v10).toNat)
     case atStart=>exact ⟨0,IB,Nat.zero_le _,rfl,rfl,Below.refl _ _,vl,hibl⟩
     case round =>
      clear hibl;obtain ⟨q,IT,hq,rfl,rfl,hbq,ii,hIl⟩:=hrel;have ue:=qH hbq;replace HA:=qH (HA.out.below hbq);replace HL:=qH (HL.out.below hbq);replace HB:=qH (zAa HB.out hbq HB.out.size);replace kf:=kf.below hbq kf.lt;replace ks:=ks.below hbq ks.lt;replace HR:=qH (HR.out.below hbq);replace kY:=qH (zAa kY.out hbq kY.out.size);clear hbq vl;skip;by_cases hqn:q < m2
      ·have p0:(0:Int)≤(q:Int):=by omega
       have p1:(q:Int) < (m2:Int):=by omega
       have zJ:q < M.length:=by rw [←jt.out];exact hqn
       have htk:=zVD zJ;have hmq:=Co.out (qa M q) (List.mem_of_getElem? (zRk zJ));obtain ⟨g2,o2,rfl,bn,y0,y1,y2,y3⟩:=zVE HR.out zJ hqn;obtain ⟨x,hx⟩:∃x,qa M q=x:=⟨_,rfl⟩
       rw [hx] at hmq y0 y1 y2 y3 htk;obtain ⟨dk,aC,xz,ry,ll,rr,hll,hrr,eN,hr1⟩:=hmq;obtain ⟨xf,hxf⟩:∃v,x.f=v:=⟨_,rfl⟩
       obtain ⟨xu,hxu⟩:∃v,x.nu=v:=⟨_,rfl⟩
       rw [hxf] at y0 dk aC;rw [hxu] at y1 xz ry;rw [hll] at y2;rw [hrr] at y3;have tb:=qH (show zGU F m i IB (M.take (q+1))=if zKd m x=(i:Int) then zTI F x i else IT by rw [htk,zQX,←ii.out]);have BO:=qH hxf;have BN:=qH hxu;have tP:=qH hll;have yi:=qH hrr;obtain ⟨fs,hfs⟩:∃v,zKd m x=v:=⟨_,rfl⟩
       have CA:=qH hfs;rw [hfs] at tb;obtain ⟨tm,htm⟩:∃t:Nat,(ll+1) % m=t:=⟨_,rfl⟩
       have t2:((ll:Int)+1) % (m:Int)=(tm:Int):=by rw [←htm];simp
       have t1:((ll:Int)+1).tmod (m:Int)=(tm:Int):=by rw [Int.tmod_eq_emod_of_nonneg (by omega)];exact t2
       have htl:tm < m:=by rw [←htm];exact Nat.mod_lt _ vd
       have t7:¬(m:Int)=0:=by omega
       have t8:¬m=0:=by omega
       have BU:=qH t2;have hwr:wrap64 ((ll:Int)+1)=(ll:Int)+1∧IntKind.i64.wrap ((ll:Int)+1)=(ll:Int)+1∧IntKind.i64.wrap (tm:Int)=(tm:Int)∧wrap64 (tm:Int)=(tm:Int):=⟨by unfold wrap64;omega,IntWalk.i64_in _ (by omega),IntWalk.i64_in _ (by omega),by unfold wrap64;omega⟩;have fm:=qH (show 1≤xf∧xf≤(n:Int) from ⟨dk,aC⟩);have EX:=qH (show I64 xu from ⟨by omega,by omega⟩);have nI:=qH (show g2 < wr.heap.size∧wr.cell? ⟨g2,o2+q*4,U⟩=Z (D J xf)∧wr.cell? ⟨g2,o2+q*4+1,U⟩=Z (D J xu)∧wr.cell? ⟨g2,o2+q*4+2,U⟩=Z (D J (ll:Int))∧wr.cell? ⟨g2,o2+q*4+3,U⟩=Z (D J (rr:Int)) from ⟨bn,y0,y1,y2,y3⟩);obtain ⟨t3,t4,t5,t6⟩:=hwr;clear htk hx dk aC xz ry hll hrr hxf hxu hfs htm ii bn;have c0:wr.cell? ⟨w.heap.size,0,U⟩=Z (H A n c):=(kf.cell 0).trans rfl;have c1:wr.cell? ⟨w.heap.size,1,U⟩=Z (D J re):=(kf.cell 1).trans rfl;have c2:wr.cell? ⟨w.heap.size,2,U⟩=Z (D J lo):=(kf.cell 2).trans rfl;have d0:wr.cell? ⟨w.heap.size+1,0,U⟩=Z (D J K):=(ks.cell 0).trans rfl;have d1:wr.cell? ⟨w.heap.size+1,1,U⟩=Z (H (Z ⟨g,o,U⟩) m d):=(ks.cell 1).trans rfl;obtain ⟨bq,hbq⟩:∃b,((tm:Int) != (rr:Int))=b:=⟨_,rfl⟩
       have Fp:=qH hbq;go_upto_region 16 with fail
       go_cut [11,66] (fun v11 v66 wv=>v11=D J (ll:Int)∧v66=G bq∧∃ZV:World,ZV=wv∧Below wr.heap.size wr ZV)
       case first =>
        clear y0 y1;go_quiet (fail)
        go_wp2_with fail
        go_meet
        case rel=>exact ⟨rfl,rfl,_,rfl,zAf (Below.refl _ _) _⟩
       case rest =>
        clear c0 c1 c2 d0 d1;obtain ⟨rfl,rfl,ZV,hU,hb⟩:=hcut;subst hU;clear t1 t2 t3 t4 t5 t6 y0 y1 y2 y3 hbq;have tV:=qH (show g2 < ZV.heap.size∧ZV.cell? ⟨g2,o2+q*4,U⟩=Z (D J xf)∧ZV.cell? ⟨g2,o2+q*4+1,U⟩=Z (D J xu)∧ZV.cell? ⟨g2,o2+q*4+2,U⟩=Z (D J (ll:Int)) from ⟨Nat.lt_of_lt_of_le nI.out.1 hb.size,(hb.cell (p:=⟨g2,o2+q*4,U⟩) nI.out.1).trans nI.out.2.1,(hb.cell (p:=⟨g2,o2+q*4+1,U⟩) nI.out.1).trans nI.out.2.2.1,(hb.cell (p:=⟨g2,o2+q*4+2,U⟩) nI.out.1).trans nI.out.2.2.2.1⟩);have lT:ZV.cell? ⟨g2,o2+q*4+3,U⟩=Z (D J (rr:Int)):=(hb.cell (p:=⟨g2,o2+q*4+3,U⟩) nI.out.1).trans nI.out.2.2.2.2;clear nI;replace HA:=qH (HA.out.below hb);replace HL:=qH (HL.out.below hb);replace HB:=qH (zAa HB.out hb HB.out.size);replace kf:=kf.below hb kf.lt;replace ks:=ks.below hb ks.lt;replace HR:=qH (HR.out.below hb);replace kY:=qH (zAa kY.out hb kY.out.size);replace ue:=qH (zAa ue.out hb ue.out.size);clear hb;have js:=qH lT
        have iy:=qH (show (bq=Q→(tm:Int)≠(rr:Int))∧(bq=E→(tm:Int)=(rr:Int)) from by
         rw [←Fp.out]
         exact ⟨fun h=>by simpa using h,fun h=>by simpa using h⟩)
        clear lT Fp;go_upto_if 66 with fail
        go_cut [11] (fun v wv=>v=D J (if (tm:Int)=(rr:Int) then (ll:Int) else (rr:Int))∧ZV=wv)
        case first =>
         cases bq with
         | false =>
          have sV:=qH (show Value.int J (ll:Int)=D J (if (tm:Int)=(rr:Int) then (ll:Int) else (rr:Int)) by rw [if_pos (iy.out.2 rfl)]);clear iy;go_wp2_with fail
          go_meet
          case rel=>exact ⟨sV.out,rfl⟩
         | true =>
          have sV:=qH (show Value.int J (rr:Int)=D J (if (tm:Int)=(rr:Int) then (ll:Int) else (rr:Int)) by rw [if_neg (iy.out.1 rfl)]);have y3:=js.out;clear iy;go_wp2_with fail
          go_meet
          case rel=>exact ⟨sV.out,rfl⟩
        case rest =>
         obtain ⟨rfl,rfl⟩:=hcut;clear js iy;have d0:ZV.cell? ⟨w.heap.size+1,0,U⟩=Z (D J K):=(ks.cell 0).trans rfl;have d1:ZV.cell? ⟨w.heap.size+1,1,U⟩=Z (H (Z ⟨g,o,U⟩) m d):=(ks.cell 1).trans rfl;obtain ⟨v1,mB⟩:∃v,(if (tm:Int)=(rr:Int) then (ll:Int) else (rr:Int))=v:=⟨_,rfl⟩
         rw [mB];have EW:=qH mB;clear mB;go_upto_if 75 with fail
         go_cut [11] (fun v wv=>v=D J fs∧ZV=wv)
         case first =>
          by_cases h2:m=2
          ·have q0:((m:Int)==2)=Q:=by simp;omega
           have sV:=qH (show fs=0 by rw [←CA.out,h2,zYb]);clear h2;go_wp2_with fail
           go_meet
           case rel=>exact ⟨by rw [sV.out],rfl⟩
          ·have q0:((m:Int)==2)=E:=by simp;omega
           have sV:=qH (show v1=fs by
            rw [←EW.out,←CA.out]
            by_cases e:(tm:Int)=(rr:Int)
            ·rw [if_pos e,zXZ h2 (by rw [tP.out,yi.out,BU.out];exact e),tP.out]
            ·rw [if_neg e,zYa h2 (by rw [tP.out,yi.out,BU.out];exact e),yi.out])
           clear h2;go_wp2_with fail
           go_meet
           case rel=>exact ⟨by rw [sV.out],rfl⟩
         case rest =>
          clear d0 d1;obtain ⟨rfl,rfl⟩:=hcut;clear EW CA BU yi;have fW:q+1≤m2:=hqn;by_cases hfi:fs=(i:Int)
          ·have c1:(fs==(i:Int))=Q:=by simpa using hfi
           have c2:(fs=(i:Int)):=hfi;obtain ⟨NM,dy⟩:∃S,nmF F xf=S:=⟨_,rfl⟩
           obtain ⟨NU,oq⟩:∃S,Lib.itoa xu=S:=⟨_,rfl⟩
           obtain ⟨bl,hbl⟩:∃b,decide (ll=i)=b:=⟨_,rfl⟩
           obtain ⟨EI,oA⟩:∃S:List UInt8,(if bl then [62] else [60])=S:=⟨_,rfl⟩
           have eN:=lF.out.len fm.out.1 (by rw [eT.out];exact fm.out.2);have eB:=zBb EX.out;rw [dy] at eN;rw [oq] at eB;have lj:EI.length=1:=by rw [←oA];cases bl<;>rfl
           have c3:((ll:Int)==(i:Int))=bl:=by
            rw [←hbl];by_cases e:ll=i
            ·subst e;simp
            ·have e2:¬(ll:Int)=(i:Int):=by omega
             simp [e,e2]
           obtain ⟨T1,cQ⟩:∃S,NM++[46]=S:=⟨_,rfl⟩
           obtain ⟨T2,eF⟩:∃S,T1++NU=S:=⟨_,rfl⟩
           obtain ⟨T3,mO⟩:∃S,T2++EI=S:=⟨_,rfl⟩
           have e1:T1.length≤50:=by rw [←cQ,List.length_append,List.length_singleton];omega
           have e2:T2.length≤80:=by rw [←eF,List.length_append];omega
           have e3:T3.length≤100:=by rw [←mO,List.length_append];omega
           have r1:=zAF cQ _ ⟨#[46]⟩ rfl rfl (by omega) (by simp);have r2:=zAF eF _ _ rfl rfl (by omega) (by omega);have r3:=zAF mO _ _ rfl rfl (by omega) (by omega);have CC:=qH (show (if bl then (⟨#[62]⟩:ByteArray) else ⟨#[60]⟩)=bA EI by rw [←oA];cases bl<;>rfl);have kV:=qH dy;have Cj:=qH (fun w=>zKZ oq EX.out w)
           have B0:=qH (show T3=zGU F m i IB (M.take (q+1)) by
            rw [tb.out,if_pos hfi,←mO,←eF,←cQ,←dy,←oq,←oA,←hbl]
            unfold zTI
            rw [BO.out,BN.out,tP.out]
            by_cases e:ll=i
            ·subst e;simp
            ·have e2:¬(ll:Int)=(i:Int):=by omega
             simp [e,e2])
           have HE3:=qH e3;clear hfi dy oq hbl oA eN eB lj cQ eF mO e1 e2 e3 tb BO BN tP;go_upto_region 21 with fail
           have k0:∀wx,Below ZV.heap.size ZV wx→(Below ZV.heap.size ZV wx∧wx.cell? ⟨w.heap.size,0,U⟩=Z (H A n c)∧wx.cell? ⟨w.heap.size,1,U⟩=Z (D J re)∧wx.cell? ⟨w.heap.size,2,U⟩=Z (D J lo)∧wx.cell? ⟨g2,o2+q*4,U⟩=Z (D J xf)∧wx.cell? ⟨g2,o2+q*4+1,U⟩=Z (D J xu)∧wx.cell? ⟨g2,o2+q*4+2,U⟩=Z (D J (ll:Int))):=fun wx h=>⟨h,((kf.below h kf.lt).cell 0).trans rfl,((kf.below h kf.lt).cell 1).trans rfl,((kf.below h kf.lt).cell 2).trans rfl,(h.cell (p:=⟨g2,o2+q*4,U⟩) tV.out.1).trans tV.out.2.1,(h.cell (p:=⟨g2,o2+q*4+1,U⟩) tV.out.1).trans tV.out.2.2.1,(h.cell (p:=⟨g2,o2+q*4+2,U⟩) tV.out.1).trans tV.out.2.2.2⟩
           have KP:=qH k0;clear k0;have Bb:=(KP.out ZV (Below.refl _ _)).2.1;have Ba:=(KP.out ZV (Below.refl _ _)).2.2.1;have gq2:=(KP.out ZV (Below.refl _ _)).2.2.2.1;have gq3:=(KP.out ZV (Below.refl _ _)).2.2.2.2.1;have gq4:=(KP.out ZV (Below.refl _ _)).2.2.2.2.2.1;have gq5:=(KP.out ZV (Below.refl _ _)).2.2.2.2.2.2
           first
            | go_region_held3 (fun wx=>Below ZV.heap.size ZV wx∧wx.cell? ⟨w.heap.size,0,U⟩=Z (H A n c)∧wx.cell? ⟨w.heap.size,1,U⟩=Z (D J re)∧wx.cell? ⟨w.heap.size,2,U⟩=Z (D J lo)∧wx.cell? ⟨g2,o2+q*4,U⟩=Z (D J xf)∧wx.cell? ⟨g2,o2+q*4+1,U⟩=Z (D J xu)∧wx.cell? ⟨g2,o2+q*4+2,U⟩=Z (D J (ll:Int))) (first | assumption | exact KP.out _ (Below.refl _ _).drew | exact KP.out _ (zAa (And.left (by assumption)) (by assumption) (Below.size (And.left (by assumption)))))
              (first
               | (go_at_call 63;refine (zSK kV.out _ (HA.out.below (And.left (by assumption))) lF.out fm.out.1 fm.out.2).mono ?_;rintro e wa ⟨rfl,hba⟩)
               | (go_at_call 78;refine (Cj.out _).mono ?_;rintro e wb ⟨rfl,hbb⟩)
               | (go_at_call 64;refine (zKY CC.out _).mono ?_;rintro e wc ⟨rfl,rfl⟩))
            | fail
           all_goals
            have hbf:=And.left (show Below ZV.heap.size ZV _∧_ by assumption);clear Bb Ba gq2 gq3 gq4 gq5;have ab:=zAa ue.out hbf ue.out.size;go_wp2_with fail
            go_roundw
            case rel=>exact ⟨q+1,T3,fW,by go_num,rfl,ab,B0,HE3.out⟩
            case measure=>simp [intOf];omega
          ·have c1:(fs==(i:Int))=E:=by simpa using hfi
           have B0:=qH (show IT=zGU F m i IB (M.take (q+1)) by rw [tb.out,if_neg hfi]);have ab:=ue.out;clear hfi tb BO BN tP;go_wp2_with fail
           go_roundw
           case rel=>exact ⟨q+1,IT,fW,by go_num,rfl,ab,B0,hIl⟩
           case measure=>simp [intOf];omega
      ·have hqe:q=m2:=by omega
       have p1:¬(q:Int) < (m2:Int):=by omega
       have HIE:=qH (show zGU F m i IB M=IT by rw [ii.out,hqe,jt.out,List.take_length]);have ie:=tY.out;rw [HIE.out] at ie;have ie:=qH ie;have hi1:i+1≤m:=hlt;have hbb:=kY.out;clear hqe ii tY;by_cases hit:IT=[]
       ·have k0:(bA IT).toList.isEmpty=Q:=by rw [hit,zAo];rfl
        have k1:((bA IT).toList==[])=Q:=by rw [hit,zAo];rfl
        have k2:((bA IT).toList != [])=E:=by rw [hit,zAo];rfl
        have iv:=qH (show T=zMz F L (i+1) by rw [ie.out,if_pos hit,dt.out]);have mN:T.length≤(i+1)*101:=by omega
        clear hit;go_wp2_with fail
        go_roundw
        case rel=>exact ⟨i+1,T,hi1,by go_num,rfl,hbb,iv,mN⟩
        case measure=>simp [intOf];omega
       ·have k0:(bA IT).toList.isEmpty=E:=by rw [zAo];cases IT with | nil=>exact absurd rfl hit | cons a b=>rfl
        have k1:((bA IT).toList==[])=E:=by rw [zAo];simpa using hit
        have k2:((bA IT).toList != [])=Q:=by rw [zAo];simpa using hit
        have sX:=ie.out;rw [if_neg hit,←dt.out] at sX;have hi4:i≤400:=by omega
        clear hit;by_cases h0:0 < i
        ·have p3:(0:Int) < (i:Int):=by omega
         rw [if_pos h0] at sX;obtain ⟨Y0,xM⟩:∃S,T++[32]=S:=⟨_,rfl⟩
         obtain ⟨Y1,fM⟩:∃S,Y0++IT=S:=⟨_,rfl⟩
         have y0:Y0.length≤i*101+1:=by rw [←xM,List.length_append,List.length_singleton];omega
         have iv:=qH (show Y1=zMz F L (i+1) by rw [sX,←fM,←xM]);have r0:=zAF xM _ ⟨#[32]⟩ rfl rfl (by omega) (by simp);have r1:=zAF fM _ _ rfl rfl (by omega) (by omega);have mN:Y1.length≤(i+1)*101:=by rw [←fM,List.length_append];omega
         clear sX xM fM h0;go_wp2_with fail
         go_roundw
         case rel=>exact ⟨i+1,Y1,hi1,by go_num,rfl,hbb,iv,mN⟩
         case measure=>simp [intOf];omega
        ·have p3:¬(0:Int) < (i:Int):=by omega
         rw [if_neg h0,List.append_nil] at sX;obtain ⟨Y1,fM⟩:∃S,T++IT=S:=⟨_,rfl⟩
         have iv:=qH (show Y1=zMz F L (i+1) by rw [sX,←fM]);have r1:=zAF fM _ _ rfl rfl (by omega) (by omega);have mN:Y1.length≤(i+1)*101:=by rw [←fM,List.length_append];omega
         clear sX fM h0;go_wp2_with fail
         go_roundw
         case rel=>exact ⟨i+1,Y1,hi1,by go_num,rfl,hbb,iv,mN⟩
         case measure=>simp [intOf];omega
   ·have hin:i=m:=by omega
    have j1:¬(i:Int) < (m:Int):=by omega
    have rh:=qH (show bA T=bA (zLo F L) by rw [dt.out,hin,B6.out]);clear hin dt;go_wp2_with fail
    go_ret;exact ⟨zGD rh.out,HB.out⟩
theorem zVF {A:Option Addr} {n c:Nat} {F:List Fg} {re lo K:Int} {B:Option Addr} {m d:Nat} {L:List Lt} {S:List UInt8} (h:zLo F L=S) (hE:zBr F re lo K L=0) (w:World) (hA:Fgs w A n F) (hB:Lets w B m L) :
  Calls Tryz.prog 35 #[frV A n c re lo,.agg #[D J K,H B m d]] w fun e w'=>e=.returned (W (bA S))∧Below w.heap.size w w':=by
 subst h;exact zJZ A n c F re lo K B m d L w hA hB hE
end Go.Proofs.YtlmdfmnbcndhoaaGreatDoor
