/-
  Lemmas, part 38. Conditions: each theorem's own.
-/
import Derived.Test.YtlmdfmnbcndhoaaGreatDoorRc37
open Go.Value renaming bool→G,int→D,slice→H,string→W
open Go.IntKind renaming i64→J
open Option renaming none→U,some→Z
open Bool renaming false→E,true→Q
namespace Go.Proofs.YtlmdfmnbcndhoaaGreatDoor
open Go.RowKit
theorem zHc {S:List UInt8} {i:Nat} {b:UInt8} (h:S[i]? = Z b) (w:World):(Instr.index 9 (W (bA S)) (D J (i:Int))).run Tryz.prog w=.ok (D .u8 b.toNat) w:=by
 have hl:i < S.length:=(List.getElem?_eq_some_iff.1 h).1;have hs:i < (bA S).size:=by rw [zAP];exact hl
 obtain ⟨b',h1,h2⟩:=zPF (S:=S) (pos:=i) hl hs;rw [h] at h1;have h1:b=b':=Option.some.inj h1;rw [run_index_string w 9 (bA S) J (i:Int) Tryz.underlying9,dif_pos ⟨by omega,by omega⟩];simp only [Int.toNat_natCast];rw [h2,h1]
theorem zVg {S:List UInt8} {i j:Nat} (h:i≤j) (hj:j≤S.length) (w:World):(Instr.slice 9 (W (bA S)) (Z (D J (i:Int))) (Z (D J (j:Int))) U).run Tryz.prog w=.ok (W (bA ((S.take j).drop i))) w:=by
 rw [run_slice_string w 9 (bA S) J J (i:Int) (j:Int) Tryz.underlying9 (by omega) (by omega) (by rw [zAP];omega),zCg];simp
theorem zSF {S:List UInt8} {j:Nat} (hj:j≤S.length) (w:World):(Instr.slice 9 (W (bA S)) U (Z (D J (j:Int))) U).run Tryz.prog w=.ok (W (bA (S.take j))) w:=by
 rw [run_slice_string_h w 9 (bA S) Tryz.underlying9 J (j:Int) (by omega) (by rw [zAP];omega),zCg];simp
theorem zJP {S:List UInt8} (h:¬(S≠[]∧S.length≤9∧S.head?≠Z 48∧S.all zKB=Q)):zIc S=0:=by unfold zIc;rw [zEo h]
set_option maxHeartbeats 3200000 in
theorem zKZ (S:List UInt8) (w:World) :
  Calls Tryz.prog 131 #[W (bA S)] w fun e w'=>e=.returned (D J (zIc S))∧Below w.heap.size w w':=by
 have hs:=zCU S;obtain ⟨V,HC⟩:∃v,Hid (zIc S=v):=⟨_,qH rfl⟩
 rw [show zIc S=V from HC.out];obtain ⟨nS,dz⟩:∃n,S.length=n:=⟨_,rfl⟩
 rw [dz] at hs;have HB:=qH (Below.refl w.heap.size w);by_cases h0:S=[]
 ·have hr:=qH (show V=0 from HC.out.symm.trans (zJP fun h=>h.1 h0));have i0:((nS:Int)==0)=Q:=by rw [←dz,h0];rfl
  clear h0 dz;go_enter Tryz.func131,Tryz.ntmps131;go_wp2_with fail
  go_ret;exact ⟨zGC hr.out.symm,HB.out⟩
 have i0:((nS:Int)==0)=E:=by
  have:S.length≠0:=fun e=>h0 (List.length_eq_zero_iff.1 e)
  simp only [beq_eq_false_iff_ne,ne_eq];omega
 by_cases hl:9 < nS
 ·have hr:=qH (show V=0 from HC.out.symm.trans (zJP fun h=>by omega));have i1:(9:Int) < (nS:Int):=by omega
  clear h0 dz hl;go_enter Tryz.func131,Tryz.ntmps131;go_wp2_with fail
  go_ret;exact ⟨zGC hr.out.symm,HB.out⟩
 have i1:¬(9:Int) < (nS:Int):=by omega
 obtain ⟨x,r,hx⟩:∃x r,S=x :: r:=by
  cases S with
  | nil=>exact absurd rfl h0
  | cons x r=>exact ⟨x,r,rfl⟩
 have s1:=zDc x r;rw [←hx] at s1;by_cases h48:x=48
 ·have hr:=qH (show V=0 from HC.out.symm.trans (zJP fun h=>h.2.2.1 (by rw [hx,h48];rfl)));rw [show ((x.toNat:Nat):Int)=48 from by rw [h48];rfl] at s1;clear h0 dz hl h48 hx;go_enter Tryz.func131,Tryz.ntmps131;go_wp2_with fail
  go_ret;exact ⟨zGC hr.out.symm,HB.out⟩
 have k1:((x.toNat:Int)==48)=E:=by
  simp only [beq_eq_false_iff_ne,ne_eq];intro e;exact h48 (UInt8.toNat.inj (show x.toNat=48 by omega))
 have HS:=qH (show S≠[]∧S.length≤9∧S.head?≠Z 48 from ⟨h0,by omega,by rw [hx];simpa using h48⟩);have HN:=qH dz;have EF:nS≤9:=by omega
 clear h0 dz hl h48 hx;go_enter Tryz.func131,Tryz.ntmps131;go_wp2_with fail
 go_loopw [3,4] (fun v3 v4 wr=>∃(pos ZV:Nat) (X:World),X=wr∧v3=D J ZV∧v4=D J pos∧pos≤nS∧Below w.heap.size w X∧Hid (ZV=zGG 0 (S.take pos))∧Hid (∀b∈S.take pos,zKB b=Q)) (fun _ v4 _=>nS-(intOf v4).toNat)
 case atStart=>exact ⟨0,0,_,rfl,rfl,rfl,by omega,HB.out,qH rfl,qH (by simp)⟩
 case round =>
  obtain ⟨pos,ZV,X,hX,rfl,rfl,hpos,hb,HV,HD⟩:=hrel;subst hX;by_cases hp:pos < nS
  ·have j0:(pos:Int) < (nS:Int):=by omega
   obtain ⟨b,ah⟩:∃b,S[pos]? = Z b:=⟨_,List.getElem?_eq_getElem (by rw [HN.out];exact hp)⟩
   have hnx:=zHc ah;by_cases hd:zKB b=Q
   ·obtain ⟨d1,d2⟩:=zFp hd;obtain ⟨B,hB⟩:∃B:Nat,b.toNat=B:=⟨_,rfl⟩
    rw [hB] at hnx d1 d2;have j1:¬((B:Int) < 48):=by omega
    have j2:¬((57:Int) < (B:Int)):=by omega
    have hV:ZV < 1000000000:=by
     have:=zTv _ HD.out;rw [←HV.out] at this;have h3:(S.take pos).length≤9:=by rw [List.length_take];omega
     have:=Nat.pow_le_pow_right (n:=10) (by omega) h3;omega
    have lS:=qH (show zGG 0 (S.take (pos+1))=10*ZV+(B-48)∧∀y∈S.take (pos+1),zKB y=Q by
     rw [zMK ah,HV.out,hB]
     refine ⟨rfl,fun y hy=>?_⟩
     rw [List.take_add_one,ah] at hy
     rcases List.mem_append.1 hy with hy | hy
     ·exact HD.out y hy
     ·simp at hy;rw [hy];exact hd)
    clear hd ah hB HV HD;go_wp2_with fail
    go_roundw
    case rel=>exact ⟨pos+1,10*ZV+(B-48),_,rfl,by congr 1;simp;omega,by go_num,by omega,hb,qH lS.out.1.symm,qH lS.out.2⟩
    case measure=>simp [intOf];omega
   ·have hr:=qH (show V=0 from HC.out.symm.trans (zJP fun h=>hd ((List.all_eq_true.1 h.2.2.2) b (List.mem_of_getElem? ah))));obtain ⟨B,hB⟩:∃B:Nat,b.toNat=B:=⟨_,rfl⟩
    rw [hB] at hnx;have gJ:=qH hb;by_cases hlt:(B:Int) < 48
    ·clear hd ah hB HV HD hb;go_wp2_with fail
     go_ret;exact ⟨zGC hr.out.symm,gJ.out⟩
    ·have hgt:(57:Int) < (B:Int):=by
      have:¬(48≤b.toNat∧b.toNat≤57):=fun e=>hd (by simp [zKB,e])
      omega
     clear hd ah hB HV HD hb;go_wp2_with fail
     go_ret;exact ⟨zGC hr.out.symm,gJ.out⟩
  ·have j0:¬(pos:Int) < (nS:Int):=by omega
   have hr:=qH (show V=(ZV:Int) by
    have hpe:pos=nS:=by omega
    have h1:S.take pos=S:=by rw [hpe,←HN.out,List.take_length]
    have h2:=HD.out
    have h3:=HV.out
    rw [h1] at h2 h3
    rw [←HC.out]
    unfold zIc zAr
    rw [if_pos ⟨HS.out.1,HS.out.2.1,HS.out.2.2,List.all_eq_true.2 h2⟩,h3])
   have gJ:=qH hb;clear HV HD HN HS hb;go_wp2_with fail
   go_ret;exact ⟨zGC hr.out.symm,gJ.out⟩
theorem zIQ {S:List UInt8} {v:Int} (h:zIc S=v) (w:World):Calls Tryz.prog 131 #[W (bA S)] w fun e w'=>e=.returned (D J v)∧Below w.heap.size w w':=by
 subst h;exact zKZ S w
def SplQ (c:UInt8) (S:List UInt8) (fr i:Nat) (T:List (List UInt8)):Prop :=
 (i≤S.length→fr≤i∧zAN c S=T++zAN c (S.drop fr)∧c ∉ (S.take i).drop fr)∧(i=S.length+1→T=zAN c S)
section
variable {c b:UInt8} {S:List UInt8} {fr i:Nat} {T:List (List UInt8)}
theorem zSG (hf:fr≤i) (h:S[i]? = Z b):S.drop fr=(S.take i).drop fr++b :: S.drop (i+1):=by
 have hi:=(List.getElem?_eq_some_iff.1 h).1;have h2:S.drop i=b :: S.drop (i+1):=by
  rw [List.drop_eq_getElem_cons hi]
  congr 1
  rw [List.getElem?_eq_getElem hi] at h;injection h
 rw [←h2]
 conv=>lhs;rw [←List.take_append_drop i S]
 rw [List.drop_append_of_le_length (by rw [List.length_take];omega)]
theorem SplQ.start:SplQ c S 0 0 []:=⟨fun _=>⟨Nat.le_refl _,by simp,by simp⟩,fun h=>by omega⟩
theorem SplQ.hit (h:SplQ c S fr i T) (hb:S[i]? = Z c):SplQ c S (i+1) (i+1) (T++[(S.take i).drop fr]):=by
 have hi:=(List.getElem?_eq_some_iff.1 hb).1;obtain ⟨h1,h2,h3⟩:=h.1 (by omega);refine ⟨fun _=>⟨Nat.le_refl _,?_,by simp⟩,fun e=>by omega⟩;rw [h2,zSG h1 hb,zCv h3];simp
theorem SplQ.miss (h:SplQ c S fr i T) (hb:S[i]? = Z b) (hne:b≠c):SplQ c S fr (i+1) T:=by
 have hi:=(List.getElem?_eq_some_iff.1 hb).1;obtain ⟨h1,h2,h3⟩:=h.1 (by omega);refine ⟨fun _=>⟨by omega,h2,?_⟩,fun e=>by omega⟩;rw [List.take_add_one,hb,List.drop_append_of_le_length (by rw [List.length_take];omega)];intro e;rcases List.mem_append.1 e with e | e
 ·exact h3 e
 ·simp at e;exact hne e.symm
theorem SplQ.last (h:SplQ c S fr S.length T):SplQ c S (S.length+1) (S.length+1) (T++[(S.take S.length).drop fr]):=by
 obtain ⟨h1,h2,h3⟩:=h.1 (Nat.le_refl _);refine ⟨fun e=>by omega,fun _=>?_⟩;rw [List.take_length] at h3 ⊢;rw [h2,zEl h3]
theorem SplQ.fr_le (h:SplQ c S fr i T) (hi:i≤S.length):fr≤i:=(h.1 hi).1
end
set_option maxHeartbeats 3200000 in
theorem zOh (S:List UInt8) (c:UInt8) (hS:S.length≤100000) (w:World) :
  Calls Tryz.prog 66 #[W (bA S),D .u8 (c.toNat:Int)] w (zFZ w (zAN c S)):=by
 have hs:=zCU S;obtain ⟨nS,dz⟩:∃n,S.length=n:=⟨_,rfl⟩
 rw [dz] at hs hS;have HN:=qH dz;obtain ⟨C,hC⟩:∃C:Nat,c.toNat=C:=⟨_,rfl⟩
 rw [hC];have HC:=qH hC;clear hC dz;go_enter Tryz.func66,Tryz.ntmps66;go_wp2_with fail
 go_loopw [5,6,7] (fun v5 v6 v7 wv=>∃(i fr:Nat) (X:World) (A:Option Addr) (m d:Nat) (T:List (List UInt8)),X=wv∧i≤nS+1∧v7=D J i∧v6=D J fr∧v5=H A m d∧Row X w.heap.size 1 A m d (T.map zLi)∧m≤i∧Below w.heap.size w X∧Hid (SplQ c S fr i T)) (fun _ _ v7 _=>nS+1-(intOf v7).toNat)
 case atStart=>exact ⟨0,0,_,U,0,0,[],rfl,by omega,rfl,rfl,rfl,Row.none_ _ _ _,Nat.le_refl _,Below.refl _ _,qH SplQ.start⟩
 case round =>
  obtain ⟨i,fr,X,A,m,d,T,hX,hi,rfl,rfl,rfl,hR,hm,hb,HQ⟩:=hrel;subst hX;have hz:w.heap.size≤X.heap.size:=hb.size;by_cases hlt:i≤nS
  ·have j0:(i:Int)≤(nS:Int):=by omega
   have hfr:fr≤i:=HQ.out.fr_le (by rw [HN.out];exact hlt);have hsl:=zVg (S:=S) (i:=fr) (j:=i) hfr (by rw [HN.out];exact hlt);by_cases he:i=nS
   ·have j1:((i:Int)==(nS:Int))=Q:=by rw [he];simp
    have up:=qH (show SplQ c S (i+1) (i+1) (T++[(S.take i).drop fr]) by
     have h1:i=S.length:=by rw [HN.out];exact he
     have h2:=HQ.out
     rw [h1] at h2 ⊢
     exact h2.last)
    obtain ⟨P,hP⟩:∃P,(S.take i).drop fr=P:=⟨_,rfl⟩
    rw [hP] at hsl up;clear hP HQ he;go_wp2_with (at_builtin;refine zRH rfl _ _ rfl hR P rfl rfl (m+1) rfl (by omega) hz ?_;intro A2 c2 w9 hR9 aJ)
    have bH:=hb.trans aJ;clear hR hb aJ;go_wp2_with fail
    go_roundw
    case rel=>exact ⟨i+1,i+1,_,A2,m+1,c2,T++[P],rfl,by omega,by go_num,by go_num,rfl,hR9,by omega,bH,up⟩
    case measure=>simp [intOf];omega
   ·have j1:((i:Int)==(nS:Int))=E:=by simp only [beq_eq_false_iff_ne,ne_eq];omega
    obtain ⟨b,ah⟩:∃b,S[i]? = Z b:=⟨_,List.getElem?_eq_getElem (by rw [HN.out];omega)⟩
    have hnx:=zHc ah;by_cases hq:b=c
    ·have j2:((b.toNat:Int)==(C:Int))=Q:=by rw [hq,HC.out];simp
     have up:=qH (HQ.out.hit (by rw [ah,hq]));obtain ⟨P,hP⟩:∃P,(S.take i).drop fr=P:=⟨_,rfl⟩
     rw [hP] at hsl up;generalize b.toNat=B at hnx j2;clear hP HQ he ah hq;go_wp2_with (at_builtin;refine zRH rfl _ _ rfl hR P rfl rfl (m+1) rfl (by omega) hz ?_;intro A2 c2 w9 hR9 aJ)
     have bH:=hb.trans aJ;clear hR hb aJ;go_wp2_with fail
     go_roundw
     case rel=>exact ⟨i+1,i+1,_,A2,m+1,c2,T++[P],rfl,by omega,by go_num,by go_num,rfl,hR9,by omega,bH,up⟩
     case measure=>simp [intOf];omega
    ·have j2:((b.toNat:Int)==(C:Int))=E:=by
      simp only [beq_eq_false_iff_ne,ne_eq];intro e;exact hq (UInt8.toNat.inj (by rw [HC.out];omega))
     have up:=qH (HQ.out.miss ah hq);generalize b.toNat=B at hnx j2;clear HQ he ah hq hsl;go_wp2_with fail
     go_roundw
     case rel=>exact ⟨i+1,fr,_,A,m,d,T,rfl,by omega,by go_num,rfl,rfl,hR,by omega,hb,up⟩
     case measure=>simp [intOf];omega
  ·have j0:¬(i:Int)≤(nS:Int):=by omega
   have hT:=qH (show T=zAN c S from HQ.out.2 (by rw [HN.out];omega));clear HQ;go_wp2_with fail
   go_ret;exact ⟨A,m,d,rfl,by rw [←hT.out];exact hR,by omega,hb⟩
theorem zNc {S:List UInt8} {c:UInt8} {T:List (List UInt8)} (h:zAN c S=T) (hS:S.length≤100000) (w:World) :
  Calls Tryz.prog 66 #[W (bA S),D .u8 (c.toNat:Int)] w (zFZ w T):=by
 subst h;exact zOh S c hS w
theorem zNd {w:World} {base:Nat} {K:Int} (hb:base≤w.heap.size):CodesOwn (w.alloc (.cells #[D J K,H U 0 0] 55)) base K (Z ⟨w.heap.size,0,U⟩) 1 1 [⟨[],U,0,0⟩]:=by
 refine ⟨⟨rfl,Nat.le_refl _,fun e=>(by cases e),fun ad ha=>?_⟩,fun e he=>?_,fun e he=>by rw [List.mem_singleton.1 he];exact Nat.le_refl _⟩
 ·injection ha with ha
  subst ha;have hk:=Blk.new w 55 #[D J K,H U 0 0];refine ⟨rfl,hb,by simp,fun j u hu=>?_,fun j hj=>⟨?_,hk.frozen _⟩⟩
  ·rw [Nat.zero_add,hk.cell];simpa [zQw] using hu
  ·rw [Nat.zero_add,hk.cell];rcases (show j=0∨j=1 by omega) with rfl | rfl<;>rfl
 ·rw [List.mem_singleton.1 he];exact ⟨Lets.nil _ _,fun k hk=>by cases hk⟩
theorem zNe {cr N:Nat} (h:cr≤12) (hN:2 ^ cr=N):wrap64 ((2:Int) ^ cr)=(N:Int)∧IntKind.i64.wrap ((2:Int) ^ cr)=(N:Int)∧IntKind.i64.wrap (1*(2:Int) ^ cr)=(N:Int)∧wrap64 (1*(2:Int) ^ cr)=(N:Int):=by
 have gB:(2:Int) ^ cr=(N:Int):=by rw [←hN];simp
 have E6:N≤4096:=by rw [←hN];exact Nat.le_trans (Nat.pow_le_pow_right (by omega) h) (by decide)
 have h1:IntKind.i64.wrap (N:Int)=(N:Int):=IntWalk.i64_in _ (by omega);have h2:wrap64 (N:Int)=(N:Int):=by unfold wrap64;omega
 rw [Int.one_mul,gB];exact ⟨h2,h1,h1,h2⟩
theorem zSH {L:List Fg} {re lo:Int} {S:List UInt8} (h:zAw L re lo S=0):L.length≤40∧S.length≤8000:=⟨(zCT.1 (zCh h).2).1,(zCh h).1⟩
theorem zQE {K:Int} {B:Option Addr} {n d:Nat} {L M:List Lt} {cr nu:Nat} (h:zBB cr nu L=M) (w:World) (hB:Lets w B n L) (hn:n≤1000000) (hcr:cr≤12) (hnu:nu < 4096) (hid:∀i,i < n→isC (la L i)=Q→1≤(la L i).id∧(la L i).id≤cr) :
  Calls Tryz.prog 82 #[.agg #[D J K,H B n d],D J (cr:Int),D J (nu:Int)] w (zHX w K M):=by
 subst h;exact zKP K B n d L cr nu w hB hn hcr hnu hid
set_option maxHeartbeats 12800000 in
set_option maxRecDepth 100000 in
theorem zCS (F:Fm) (S:List UInt8) (w:World) (hA:Fgs w F.A F.n F.L) (hc:F.n≤F.c) (ht:Tabs w) :
  Calls Tryz.prog 37 #[frV F.A F.n F.c F.re F.lo,W (bA S)] w (zJN w (F.n:Int) (rqR F.L F.re F.lo S).1 (rqR F.L F.re F.lo S).2):=by
 have pp:F.L.length=F.n:=hA.len;have aa:Below w.heap.size w (w.alloc (.cells #[H F.A F.n F.c,D J F.re,D J F.lo] 24)):=(Below.refl _ _).alloc (Nat.le_refl _) _;have hk0:Blk (w.alloc (.cells #[H F.A F.n F.c,D J F.re,D J F.lo] 24)) w.heap.size 24 #[H F.A F.n F.c,D J F.re,D J F.lo]:=Blk.new _ _ _;have HA:=qH hA;have HT:=qH ht;have dC:=qH pp;obtain ⟨ZT,hE⟩:∃ZT,zAw F.L F.re F.lo S=ZT:=⟨_,rfl⟩
 have hcs:=zER F.L F.re F.lo S;rw [hE] at hcs;have fz:=qH (fun wx (hx:Fgs wx F.A F.n F.L)=>zDx F.A F.n F.c F.L F.re F.lo S wx hx hc);simp only [hE] at fz;have HE:=qH hE;obtain ⟨⟨TC,TE⟩,oE⟩:∃x,rqR F.L F.re F.lo S=x:=⟨_,rfl⟩
 rw [oE];simp only;have dd:=qH (fun (Cs:List (List Lt)) (er:Int) (hq:rqR F.L F.re F.lo S=(Cs,er)) (e:Ending) (wx:World) (h:zJN w (F.n:Int) Cs er e wx)=>(show zJN w (F.n:Int) TC TE e wx by rw [oE] at hq;injection hq with h1 h2;subst h1;subst h2;exact h));have HHC:=qH hc;clear hA ht hE oE pp hc;go_enter Tryz.func37,Tryz.ntmps37;go_wp2_with fail
 generalize w.alloc (.cells #[H F.A F.n F.c,D J F.re,D J F.lo] 24)=Y at aa hk0 ⊢;refine (fz.out Y (HA.out.below aa)).mono ?_;rintro e Y2 ⟨rfl,ab⟩;have aP:=hk0.below ab hk0.lt;have ac:=zAa aa ab aa.size;clear hk0 aa ab fz;by_cases h0:ZT=0
 ·subst h0;obtain ⟨xj,BX⟩:=zSH HE.out;have ma:F.n≤40:=by rw [←dC.out];exact xj
  have zV:=qH (show ¬(zAw F.L F.re F.lo S≠0) from fun h=>h HE.out);obtain ⟨v0,v1,v2⟩:=cQ3 aP;have n0:=zAH S zDm;have hwz:w.heap.size≤Y2.heap.size:=ac.size;have hwr:w.heap.size < Y2.heap.size:=aP.lt;clear hcs xj;by_cases hba:S=zDm
  ·rw [show (S==zDm)=Q from by simpa using hba] at n0;have HF:=qH (dd.out [[]] 0 (by unfold rqR;rw [if_neg zV.out,if_pos hba]) _ _ ⟨Z ⟨Y2.heap.size,0,U⟩,1,1,[⟨[],U,0,0⟩],rfl,rfl,by omega,zNd (K:=(F.n:Int)) hwz,ac.alloc ac.size _⟩);unfold zDm at n0;clear hba aP ac;go_wp2_with fail
   go_ret2;exact HF.out
  ·rw [show (S==zDm)=E from by simpa using hba] at n0;unfold zDm at n0;have ya:=qH hba;have hbl:=(Below.refl Y2.heap.size Y2).alloc (Nat.le_refl _) (.cells (rdC F.A F.n F.c F.re F.lo U 0 0 E E) 123);have aj:=zAa ac hbl ac.size
   have hrx:RX (Y2.alloc (.cells (rdC F.A F.n F.c F.re F.lo U 0 0 E E) 123)) Y2.heap.size F ⟨[],E,E⟩ :=
    ⟨⟨U,0,0,Blk.new _ _ _,Els.nil _ _,Nat.le_refl _,fun k hk=>by cases hk⟩,HA.out.below aj,fun h0 k hk=>by
     obtain ⟨g,o,e,hg,_⟩:=HA.out.1.2.2 h0
     rw [e] at hk
     injection hk with hk
     have fO:g=k:=hk
     omega⟩
   have Bz:=aP.below hbl aP.lt;clear hba aP ac hbl;go_upto_region 8 with fail
   clear v0 v1 v2 n0;generalize Y2.alloc (.cells (rdC F.A F.n F.c F.re F.lo U 0 0 E E) 123)=ZU at aj hrx Bz ⊢;generalize Y2.heap.size=rb at hrx hwz hwr ⊢;have BQ:∀X,ZU.grownBy X (Z rb)→Below w.heap.size w X:=fun X hg=>zAa aj (zBU hg hwz aj.size) (Nat.le_refl _)
   have HTX:=qH BQ;have yC:=qH (zMf rb F [] E E S ZU hrx (by omega) (fun X hg=>HT.out.below (BQ X hg)));clear BQ hrx aj;go_wp2_with fail
   refine yC.out.mono ?_;rintro e X ⟨A1,c1,rfl,e9,lU,cm⟩;have aE:=HTX.out X cm;have uL:=Bz.grown cm (fun e=>by injection e;omega);obtain ⟨Ws,nE⟩:∃x,zAN 32 S=x:=⟨_,rfl⟩
   have hWl:Ws.length≤8001:=by rw [←nE];have:=zCx S;omega
   rw [nE] at e9 lU ⊢;rw [Bool.false_or,Bool.false_or] at lU;have xT:=qH nE;obtain ⟨bd,hbd⟩:∃b,zBY Ws=b:=⟨_,rfl⟩
   obtain ⟨ls,hls⟩:∃b,zCQ F.L Ws=b:=⟨_,rfl⟩
   rw [hbd,hls] at lU;have c4:=lU.bad4.1;have c5:=lU.lost5;simp only at c4 c5;have Ah:=qH hbd;have n8:=qH hls;clear nE hbd hls cm Bz yC
   cases bd with
   | true =>
    have HF:=qH (dd.out [] 6 (by unfold rqR;rw [if_neg zV.out,if_neg ya.out,xT.out,if_pos Ah.out]) _ X ⟨U,0,0,[],rfl,rfl,by omega,CodesOwn.none_ _ _ _,aE⟩);clear lU e9 aE uL c5;go_wp2_with fail
    go_ret2;exact HF.out
   | false =>
   cases ls with
   | true =>
    have HF:=qH (dd.out [] 8 (by unfold rqR;rw [if_neg zV.out,if_neg ya.out,xT.out,if_neg (by rw [Ah.out];simp),if_pos n8.out]) _ X ⟨U,0,0,[],rfl,rfl,by omega,CodesOwn.none_ _ _ _,aE⟩);clear lU e9 aE uL;go_wp2_with fail
    go_ret2;exact HF.out
   | false =>
    have zm:=zNa Ah.out n8.out;obtain ⟨l,hl⟩:∃l,Ws.map (zGY F.L)=l:=⟨_,rfl⟩
    have hll:l.length=Ws.length:=by rw [←hl,List.length_map]
    have xw:Bits X A1 Ws.length l:=by
     rw [hl] at e9;refine ⟨e9.els (fun _=>rfl) (by omega) (by omega),fun x hx=>?_⟩;rw [←hl] at hx;obtain ⟨y,_,rfl⟩:=List.mem_map.1 hx;exact zVb (by rw [dC.out];omega) y
    rw [hl,dC.out] at zm;have sr:=qH zm;have fo:=qH (show zDn F.L S=l by unfold zDn;rw [xT.out,hl]);obtain ⟨n1,lr⟩:∃n,Ws.length=n:=⟨_,rfl⟩
    rw [lr] at xw hWl hll ⊢;have di:=qH hll;have oh:=qH (zIq F.n A1 n1 c1 l X xw ma (by omega) (fun x hx=>by have:=zm x hx;omega))
    have Gm:=qH (show ∀r,(if zBJ l=E then (([]:List (List Lt)),(3:Int)) else if 12 < crS F.L S∨400 < (zAT F.L S).length then ([],7) else if zAI F.L F.re F.lo (crS F.L S) (zAT F.L S) (2 ^ crS F.L S)=[] then ([],3) else (zAI F.L F.re F.lo (crS F.L S) (zAT F.L S) (2 ^ crS F.L S),0))=r→rqR F.L F.re F.lo S=r by
     intro r hr
     unfold rqR
     rw [if_neg zV.out,if_neg ya.out,xT.out,if_neg (by rw [Ah.out];simp),if_neg (by rw [n8.out];simp),fo.out]
     exact hr)
    clear lU zm hl lr hll e9;go_wp2_with fail
    clear c4 c5;refine oh.out.mono ?_;intro e X2 hcp;rcases hcp with ⟨hcb,g2,rfl,fP,ai⟩ | ⟨hcb,rfl,ai⟩
    ·have tx:=zAa aE ai aE.size;have tk:=uL.below ai uL.lt;have xv:=xw.below ai;have GD:=qH hcb;have pF:=qH (show ∀j,j < F.n+2→∃v:Nat,(zBQ F.n l)[j]? = Z (v:Int)∧v≤100000 from fun j hj=>⟨_,zET F.n l hj,by have:=zGk l (j:Int);have:=di.out;omega⟩);have DM:=qH (zMg F.n A1 n1 c1 l g2 (zBQ F.n l) X2 xv ⟨fP.blk,Nat.zero_le _,fP.len⟩ ma (by omega) (fun x hx=>by have:=sr.out x hx;omega) pF.out);obtain ⟨L,hL⟩:∃L,zAK (zBQ F.n l) l=L:=⟨_,rfl⟩
     obtain ⟨cr,hcr⟩:∃c,zCN l / 2=c:=⟨_,rfl⟩
     rw [hL] at DM;rw [hcr];have fJ:=qH (show zAT F.L S=L∧crS F.L S=cr by unfold zAT crS;rw [fo.out,dC.out];exact ⟨hL,hcr⟩)
     have DB:=qH (show ∀i,i < L.length→isC (la L i)=Q→1≤(la L i).id∧(la L i).id≤cr from fun i hi hc=>by
      rw [←hL] at hi hc ⊢
      obtain ⟨x,hx,h0,he⟩:=zQy hi hc
      have h1:=zNb GD.out hx h0
      have h2:=sr.out x hx
      rw [hcr] at h1
      rw [he];omega)
     have Gl:=qH (show ∀r,(if 12 < cr∨400 < L.length then (([]:List (List Lt)),(7:Int)) else if zAI F.L F.re F.lo cr L (2 ^ cr)=[] then ([],3) else (zAI F.L F.re F.lo cr L (2 ^ cr),0))=r→rqR F.L F.re F.lo S=r by
      intro r hr
      refine Gm.out r ?_
      rw [if_neg (by rw [GD.out];simp),fJ.out.1,fJ.out.2]
      exact hr)
     have hcb2:cr≤20001:=by rw [←hcr];have:=zGl l;have:=di.out;omega
     clear hcb fP ai xw xv hL hcr aE uL oh;go_wp2_with fail
     refine DM.out.mono ?_;rintro e X3 ⟨B3,m3,d3,rfl,jB,ao⟩;have E8:L.length=m3:=jB.len;have aS:=zAa tx ao tx.size;have tj:=tk.below ao tk.lt;have oW:m3≤1000000:=by
      have h8:=zOa (zBQ F.n l) l;have h7:=di.out;have h9:=fJ.out.1;unfold zAT at h9;rw [fo.out,dC.out] at h9;rw [h9] at h8;omega
     have hbl:=(Below.refl X3.heap.size X3).alloc (Nat.le_refl _) (.cells #[D J (F.n:Int),H B3 m3 d3] 55);have mh:Blk (X3.alloc (.cells #[D J (F.n:Int),H B3 m3 d3] 55)) X3.heap.size 55 #[D J (F.n:Int),H B3 m3 d3]:=Blk.new _ _ _;have Ch:=jB.lets.below hbl;have iq:=zAa aS hbl aS.size;have oY:=tj.below hbl tj.lt;clear jB ao tx tk aS tj hbl DM;go_upto_region 17 with fail
     generalize X3.alloc (.cells #[D J (F.n:Int),H B3 m3 d3] 55)=X4 at mh Ch iq oY ⊢;generalize X3.heap.size=a13 at mh ⊢;have u1:X4.cell? ⟨a13,1,U⟩=Z (H B3 m3 d3):=(mh.cell 1).trans rfl;by_cases h7:12 < cr∨400 < L.length
     ·have HF:=qH (dd.out [] 7 (Gl.out _ (if_pos h7)) _ X4 ⟨U,0,0,[],rfl,rfl,by omega,CodesOwn.none_ _ _ _,iq⟩);clear mh Ch iq oY;by_cases h8:12 < cr
      ·have i0:(12:Int) < (cr:Int):=by omega
       clear h7 u1;go_wp2_with fail
       go_ret2;exact HF.out
      ·have i0:¬(12:Int) < (cr:Int):=by omega
       have i1:(400:Int) < (m3:Int):=by omega
       clear h7;go_wp2_with fail
       go_ret2;exact HF.out
     ·have i0:¬(12:Int) < (cr:Int):=by omega
      have i1:¬(400:Int) < (m3:Int):=by omega
      have eZ:cr≤12:=by omega
      obtain ⟨N,hN⟩:∃N,2 ^ cr=N:=⟨_,rfl⟩
      have E6:N≤4096:=by rw [←hN];exact Nat.le_trans (Nat.pow_le_pow_right (by omega) eZ) (by decide)
      have Gk:=qH (show ∀r,(if zAI F.L F.re F.lo cr L N=[] then (([]:List (List Lt)),(3:Int)) else (zAI F.L F.re F.lo cr L N,0))=r→rqR F.L F.re F.lo S=r by
       intro r hr
       refine Gl.out r ?_
       rw [if_neg h7,hN]
       exact hr)
      have yr:=qH E8;have nX:=qH (zNe eZ hN);clear h7 hN;go_upto_region 19 with fail
      clear i0 i1;go_upto_region 20 with fail -- B
      go_wp2_with fail -- A
      first
       | rw [nX.out.1]
       | rw [nX.out.2.1]
       | rw [nX.out.2.2.1]
       | rw [nX.out.2.2.2]
      have BL:w.heap.size≤X4.heap.size:=iq.size;have Dz:=qH (show ∀i,i < m3→isC (la L i)=Q→1≤(la L i).id∧(la L i).id≤cr from fun i hi hc=>DB.out i (by rw [yr.out];exact hi) hc);clear E8 u1;go_loopw [14,70] (fun v14 v70 wv=>∃(nu m:Nat) (X:World) (A':Option Addr) (c':Nat) (Es:List Ce),X=wv∧nu≤N∧m≤nu∧v70=D J nu∧v14=H A' m c'∧CodesOwn X X4.heap.size (F.n:Int) A' m c' Es∧Below X4.heap.size X4 X∧Hid (List.map (fun x:Ce=>x.L) Es=zAI F.L F.re F.lo cr L nu)) (fun _ v70 _=>N-(intOf v70).toNat)
      case atStart=>exact ⟨0,0,_,U,0,[],rfl,by omega,by omega,rfl,rfl,CodesOwn.none_ _ _ _,Below.refl _ _,qH rfl⟩
      case round =>
       obtain ⟨nu,m,X5,A',c',Es,nD,hnu,hmn,rfl,rfl,tQ,ai,HS⟩:=hrel;subst nD;by_cases hlt:nu < N
       ·have j0:(0:Int)≤(nu:Int):=by omega
        have j1:(nu:Int) < (N:Int):=by omega
        have gk:=mh.below ai mh.lt;have eB:=oY.below ai oY.lt;have E7:=Ch.below ai;have ip:=zAa iq ai iq.size;obtain ⟨M,hM⟩:∃M,zBB cr nu L=M:=⟨_,rfl⟩
        obtain ⟨p,hp⟩:∃p,zCc F.L F.re F.lo (F.L.length:Int) M=p:=⟨_,rfl⟩
        have mN:=qH (zQE (K:=(F.n:Int)) (d:=d3) hM X5 E7 oW eZ (by omega) Dz.out);have iM:=qH (fun wx (hx:Fgs wx F.A F.n F.L) (B:Option Addr) (q r:Nat) (hy:Lets wx B q M)=>zGw (d:=r) hp wx hx HHC.out hy);rw [dC.out] at iM;have uy:=qH (fun (h:p=Q)=>zHZ (F:=F.L) (re:=F.re) (lo:=F.lo) (cr:=cr) (L:=L) (m:=nu) (by rw [hM,hp,h]));have oj:=qH (fun (h:p=E)=>zIP (F:=F.L) (re:=F.re) (lo:=F.lo) (cr:=cr) (L:=L) (m:=nu) (by rw [hM,hp,h]));rw [hM] at uy;obtain ⟨u0,u1⟩:=cQ2 gk;have lZ:nu+1≤N:=hlt;have sV:m+1≤nu+1:=by omega
        have nA:m+1≤1000000:=by omega
        have da:m≤nu+1:=by omega
        clear hM hp E7 gk;go_wp2_with fail
        clear u0 u1;refine mN.out.mono ?_;rintro e X6 ⟨B5,m5,d5,rfl,iF,ao⟩;have Fk:=tQ.below ao;have lv:=eB.below ao eB.lt;have tr:=zAa ip ao ip.size;have tA:=zAa ai ao ai.size;have hlow:=fun k hk=>(tQ.row.lt k hk).2
        have uz:=qH (show m5≤d5 from iF.row.cap);have gr:=qH (fun k (hk:blk B5=Z k)=>(show k < X6.heap.size∧blk A'≠Z k from ⟨(iF.row.lt k hk).2,fun e2=>by have h1:=(iF.row.lt k hk).1;have h2:=hlow k e2;omega⟩));have hbl:=(Below.refl X6.heap.size X6).alloc (Nat.le_refl _) (.cells #[D J (F.n:Int),H B5 m5 d5] 55);have mg:Blk (X6.alloc (.cells #[D J (F.n:Int),H B5 m5 d5] 55)) X6.heap.size 55 #[D J (F.n:Int),H B5 m5 d5]:=Blk.new _ _ _;have Cm:=Fk.below hbl;have By:=lv.below hbl lv.lt;have tq:=zAa tr hbl tr.size;have o7:=zAa tA hbl tA.size;have zk:=iF.lets.below hbl;have vW:X6.heap.size≤(X6.alloc (.cells #[D J (F.n:Int),H B5 m5 d5] 55)).heap.size:=hbl.size;clear tQ eB ip ai iF ao Fk lv tr tA hlow hbl mN;go_upto_region 24 with fail
        have lM:=qH (fun k (hk:blk B5=Z k)=>(show k < (X6.alloc (.cells #[D J (F.n:Int),H B5 m5 d5] 55)).heap.size∧blk A'≠Z k from ⟨Nat.lt_of_lt_of_le (gr.out k hk).1 vW,(gr.out k hk).2⟩));clear gr vW;generalize X6.alloc (.cells #[D J (F.n:Int),H B5 m5 d5] 55)=X7 at mg Cm By tq o7 zk lM ⊢;generalize X6.heap.size=a16 at mg ⊢;obtain ⟨u0,u1⟩:=cQ2 mg;obtain ⟨v0,v1,v2⟩:=cQ3 By;clear By;go_wp2_with fail
        clear u0 u1 v0 v1 v2;refine (iM.out X7 (HA.out.below tq) B5 m5 d5 zk).mono ?_;rintro e X8 ⟨rfl,bg⟩;have uI:=mg.below bg mg.lt;have xm:=Cm.below bg;have Cg:=zk.below bg;have o6:=zAa o7 bg o7.size;have ym:=qH (fun k (hk:blk B5=Z k)=>(show k < X8.heap.size∧blk A'≠Z k from ⟨Nat.lt_of_lt_of_le (lM.out k hk).1 bg.size,(lM.out k hk).2⟩));clear mg Cm zk o7 tq bg lM iM
        cases p with
        | false =>
         have HF:=qH (show List.map (fun x:Ce=>x.L) Es=zAI F.L F.re F.lo cr L (nu+1) by rw [oj.out rfl];exact HS.out);clear uI Cg;go_wp2_with fail
         go_roundw
         case rel=>exact ⟨nu+1,m,_,A',c',Es,rfl,lZ,da,by go_num,rfl,xm,o6,HF⟩
         case measure=>simp [intOf];omega
        | true =>
         have HF:=qH (show List.map (fun x:Ce=>x.L) (Es++[(⟨M,B5,m5,d5⟩:Ce)])=zAI F.L F.re F.lo cr L (nu+1) by rw [uy.out rfl,List.map_append,HS.out];rfl);obtain ⟨u0,u1⟩:=cQ2 uI;have uF:X4.heap.size≤X8.heap.size:=o6.size;clear uI;go_upto_region 26 with (at_builtin;refine zEw ?_)
         refine qH ?_;refine zWG (base:=X4.heap.size) (K:=(F.n:Int)) (A:=A') (n:=m) (c:=c') (Es:=Es) (y:=⟨M,B5,m5,d5⟩) (N:=m+1) rfl (.tmp 80) (.tmp 82) ?_ ?_ ?_ ?_ ?_ ?_ ?_ ?_
         ·rfl
         ·exact xm.row
         ·rfl
         ·rfl
         ·rfl
         ·exact nA
         ·exact uF
         intro A2 c2 w9 hR9 aQ aL;have hE9:=xm.push ⟨M,B5,m5,d5⟩ ⟨Cg,ym.out⟩ uz.out hR9 aQ aL;have aJ:=o6.trans (xm.row.belowOf aQ uF);clear xm Cg o6 hR9 aQ aL u0 u1;go_wp2_with fail
         go_roundw
         case rel=>exact ⟨nu+1,m+1,_,A2,c2,_,rfl,lZ,sV,by go_num,rfl,hE9,aJ,HF⟩
         case measure=>simp [intOf];omega
       ·have j1:¬(nu:Int) < (N:Int):=by omega
        have hin:nu=N:=by omega
        have hlen:=tQ.len;have uT:=HS.out;rw [hin] at uT;have ip:=zAa iq ai iq.size;by_cases hm0:m=0
        ·have hes:Es=[]:=List.length_eq_zero_iff.1 (by omega);have HF:=qH (dd.out [] 3 (Gk.out _ (if_pos (by rw [←uT,hes];rfl))) _ X5 ⟨U,0,0,[],rfl,rfl,by omega,CodesOwn.none_ _ _ _,ip⟩);subst hm0;clear tQ ai ip uT hlen hin hlt HS;go_wp2_with fail
         go_ret2;exact HF.out
        ·have i5:((m:Int)==0)=E:=by simp;omega
         have HF:=qH (dd.out (List.map (fun x:Ce=>x.L) Es) 0 (Gk.out _ (by rw [if_neg (by rw [←uT];intro h;have:=congrArg List.length h;simp at this;rw [this] at hlen;simp at hlen;omega),←uT])) _ X5 ⟨A',m,c',Es,rfl,rfl,by omega,tQ.mono BL,ip⟩);clear tQ ai ip uT hlen hin hlt HS hm0;go_wp2_with fail
         go_ret2;exact HF.out
    ·have HF:=qH (dd.out [] 3 (Gm.out _ (if_pos hcb)) _ X2 ⟨U,0,0,[],rfl,rfl,by omega,CodesOwn.none_ _ _ _,zAa aE ai aE.size⟩);clear hcb ai xw aE uL;go_wp2_with fail
     go_ret2;exact HF.out
 ·have HF:=qH (dd.out [] ZT (by unfold rqR;rw [HE.out,if_pos h0]) _ Y2 ⟨U,0,0,[],rfl,rfl,by omega,CodesOwn.none_ _ _ _,ac⟩);have k0:(ZT != 0)=Q:=by simpa using h0
  clear hcs h0 ac aP;go_wp2_with fail
  go_ret2;exact HF.out
theorem zQF (A:Option Addr) (n c:Nat) (re lo:Int) (w:World) :
  Calls Tryz.prog 15 #[frV A n c re lo] w fun e w'=>e=.returned (G (decide (n≤60)))∧Below w.heap.size w w':=by
 have aa:Below w.heap.size w (w.alloc (.cells #[H A n c,D J re,D J lo] 24)):=(Below.refl _ _).alloc (Nat.le_refl _) _;by_cases h:n≤60
 ·have i0:(n:Int)≤60:=by omega
  rw [decide_eq_true h];clear h;go_enter Tryz.func15,Tryz.ntmps15;go_wp2_with fail
  go_ret;exact ⟨rfl,aa⟩
 ·have i0:¬(n:Int)≤60:=by omega
  rw [decide_eq_false h];clear h;go_enter Tryz.func15,Tryz.ntmps15;go_wp2_with fail
  go_ret;exact ⟨rfl,aa⟩
def stdF:List Fg:=[⟨1,E,1⟩,⟨1,E,2⟩,⟨1,E,3⟩,⟨1,E,4⟩,⟨1,E,5⟩,⟨1,Q,5⟩,⟨1,Q,4⟩,⟨1,Q,3⟩,⟨1,Q,2⟩,⟨1,Q,1⟩]
def exL (s:Int):List Lt:=[⟨1,1,1,0,0,E⟩,⟨1,0,1,0,0,E⟩,⟨2,0,0,1,s,E⟩,⟨1,9,1,0,0,E⟩,⟨1,10,1,0,0,E⟩,⟨2,0,0,1,s,Q⟩]
def exS:List UInt8:=[76,49,46,49,60,32,49,117,32,82,49,46,49,62,32,49,111]
def exT:List It:=[⟨Z ⟨1,E,1⟩,1,E⟩,⟨U,1,E⟩,⟨Z ⟨1,Q,1⟩,1,Q⟩,⟨U,1,Q⟩]
def exB:List Bi:=[⟨1,1,E⟩,⟨0,1,E⟩,⟨10,1,Q⟩,⟨0,1,Q⟩]
theorem zWI:Lib.join (exT.map itW) [32]=exS:=by kernel_rfl
theorem zXN:∀t∈exT,okI t:=by
 intro t ht;simp only [exT,List.mem_cons,List.not_mem_nil,or_false] at ht;rcases ht with rfl | rfl | rfl | rfl<;>refine ⟨fun f hf=>?_,by simp only;omega,by simp only;omega⟩<;>first | (cases hf;done) | (injection hf with hf;subst hf;decide)
theorem zSI:zDn stdF exS=exB∧zBY (zAN 32 exS)=E∧zCQ stdF (zAN 32 exS)=E:=by
 obtain ⟨h1,h2,h3⟩:=zQr stdF zXN;have hs:zAN 32 exS=exT.map itW:=by rw [←zWI];exact zOf (by simp [exT])
 unfold zDn;rw [hs,h1,h2,h3];exact ⟨by kernel_rfl,by kernel_rfl,by kernel_rfl⟩
theorem zSJ:zAw stdF 6 4 exS=0:=by kernel_rfl
theorem zVh:zBJ exB=Q:=by kernel_rfl
theorem zSK:zAI stdF 6 4 (zCN exB / 2) (zAK (zBQ stdF.length exB) exB) (2 ^ (zCN exB / 2))=[exL 1]:=by kernel_rfl
theorem zSL:¬(12 < zCN exB / 2∨400 < (zAK (zBQ stdF.length exB) exB).length):=by decide
theorem zXO:rqR stdF 6 4 exS=([exL 1],0):=by
 obtain ⟨h1,h2,h3⟩:=zSI;unfold rqR zAT crS;rw [h1,zSJ,if_neg (by simp),if_neg (by decide),if_neg (by rw [h2];simp),if_neg (by rw [h3];simp),if_neg (by rw [zVh];simp),if_neg zSL,zSK,if_neg (by simp)]
theorem zTJ:sqS stdF 6 4 10 (exL 1)=exS∧zDl stdF 6 4 10 (exL 1)=0:=⟨by kernel_rfl,by kernel_rfl⟩
def zXP:List UInt8:=[116,97,107,101,32,76,50,32,102,114,111,109,32,76,55,32,102,97,114,32,117,110,100,101,114]
def zXQ:List UInt8:=[114,101,108,101,97,115,101,32,50,76,49]
theorem zSM {f:Fg} (h:zAo f=Q):zAl f≠[76,55]:=by
 obtain ⟨a1,a2,a3,a4⟩:=zAs.1 h;intro e;unfold zAl at e;rw [zCu a3 (by omega)] at e;have:=congrArg List.getLast? e;simp only [List.getLast?_append,List.getLast?_cons] at this;have h2:=zJn (a:=48+f.d.toNat) (b:=55) (by omega) (by omega) (by simpa using this);omega
theorem zVi (L:List Fg):zEQ L zXP=6:=by
 refine (zML L fun n hn he=>?_).1;have h:=zEm n;rw [←he,show zBD zXP=[[116,97,107,101],[76,50],[102,114,111,109],[76,55],[102,97,114],[117,110,100,101,114]] by kernel_rfl] at h;unfold zJp at h;injection h with h1 h2
 injection h2 with h2 h3
 have fB:1≤n.kind∧n.kind≤8:=by
  rcases hn.2 with h | h | h | h | h<;>omega
 have hk:n.kind=5:=by
  rw [←zDW fB.1 fB.2,←h1];decide
 obtain ⟨x,hx,hxo⟩:∃x,n.fr=Z x∧zCV x:=by
  rcases hn.2 with h | h | h | h | h
  ·omega
  ·omega
  ·omega
  ·exact h.2.1
  ·omega
 unfold tlT at h3;rw [if_neg (by omega),if_neg (by omega),if_pos hk] at h3;injection h3 with _ h4
 unfold frT at h4;rw [hx] at h4;unfold plT at h4;injection h4 with h5 _
 exact zSM hxo.1 h5.symm
theorem zVj:zEQ stdF zXQ=8:=by
 have h:okN ⟨1,⟨2,E,1⟩,U,[],E⟩:=⟨by decide,.inl ⟨.inl rfl,rfl,rfl,rfl⟩⟩;have hl:zDH ⟨1,⟨2,E,1⟩,U,[],E⟩=zXQ:=by kernel_rfl
 have:=(zGS stdF h).1;rw [hl] at this;rw [this];decide
end Go.Proofs.YtlmdfmnbcndhoaaGreatDoor
