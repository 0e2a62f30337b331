/-
  Lemmas, part 20. Conditions: each theorem's own.
-/
import Derived.Test.YtlmdfmnbcndhoaaGreatDoorRq18
import Derived.Test.YtlmdfmnbcndhoaaGreatDoorRq19
open Go.Value renaming bool→G,int→D,slice→H,string→W
open Go.IntKind renaming i64→J
open Option renaming none→U,some→Z
open Bool renaming false→E,true→Q
namespace Go.Proofs.YtlmdfmnbcndhoaaGreatDoor
open Go.RowKit
def zop:Og:=⟨0,0,s0,[],E⟩
def zCm (w0:World) (rb:Nat) (F:Fm) (s:RS) (S:List UInt8) (e:Ending) (w':World):Prop :=
 (∃n,zAJ S=Z n∧∃B m d,e=.returned (opV (oOf F.L n) B m d)∧Row w' w0.heap.size 5 B m d ((oOf F.L n).path.flatMap zIo)∧m=(oOf F.L n).path.length∧RX w' rb F ⟨s.T,s.bad,s.lost||zAG F.L n⟩∧w0.grownBy w' (Z rb))
 ∨ (zAJ S=U∧e=.returned (opV zop U 0 0)∧(∃l,RX w' rb F ⟨s.T,Q,l⟩)∧w0.grownBy w' (Z rb))
abbrev opT:TypeId:=32
abbrev zC:Array Value:=#[D J 0,D J 0,D J 0,D J 0,G E,D J 0,H U 0 0,G E]
def zQc (f:Fg) (P:Option (List (Nst×Bool)×Nst)):Option Nop:=match P with | some (ZS,x)=>Z ⟨3,f,Z x,ZS,E⟩ | none=>U
def zEf (n:Nop) (P:Option (Bool×List UInt8)):Option Nop:=match P with | some (b,[])=>Z ⟨n.kind,n.f,n.fr,n.path,b⟩ | _=>U
def zRX (n:Nop) (r:List UInt8):Option Nop:=if r=[] then Z n else U
def Sc0 (w:World) (rb a0:Nat) (F:Fm) (s:RS) (S:List UInt8) (X:World):Prop :=
 (∃lo,RX X rb F ⟨s.T,s.bad,lo⟩)∧Blk X a0 opT zC∧w.grownBy X (Z rb)∧zAJ S=U
def Sc1 (w:World) (rb a0 a1:Nat) (F:Fm) (s:RS) (S:List UInt8) (X:World) (r:List UInt8) (n:Nop) (k f ff:Int) (far:Bool):Prop :=
 RX X rb F ⟨s.T,s.bad,s.lost||zAG F.L n⟩∧Blk X a0 opT zC∧Blk X a1 opT #[D J k,D J f,D J ff,D J 0,G far,D J 0,H U 0 0,G E]∧w.grownBy X (Z rb) ∧
  zAJ S=zEf n (zCK r)∧n.path=[]∧∀b,oOf F.L ⟨n.kind,n.f,n.fr,n.path,b⟩=⟨k,f,⟨ff,0,far,0⟩,[],b⟩
def Sc2 (w:World) (rb a0 a1 a2:Nat) (F:Fm) (s:RS) (S:List UInt8) (X:World) (r:List UInt8) (f:Fg) (fi:Int) (P:List (Nst×Bool)) (Ps:List Sp) (B:Option Addr) (m d N:Nat) (x0 x1 x3:Int) (x2:Bool):Prop :=
 RX X rb F ⟨s.T,s.bad,s.lost||zBF F.L f||zBK F.L P⟩∧Blk X a0 opT zC∧Blk X a1 opT #[D J 3,D J fi,D J 0,D J 0,G E,D J 0,H B m d,G E] ∧
  Blk X a2 29 #[D J x0,D J x1,G x2,D J x3]∧w.grownBy X (Z rb)∧Row X (a2+1) 5 B m d (Ps.flatMap zIo)∧m=Ps.length∧Ps=P.map (pOf F.L)∧fi=(zBa F.L f:Int) ∧
  m+r.length≤S.length∧r.length < N∧zAJ S=zQc f (zGj N P r)
def Sc3 (w:World) (rb a0 a1:Nat) (F:Fm) (s:RS) (S:List UInt8) (X:World) (r:List UInt8) (n:Nop) (k f ff:Int) (far over:Bool) (path:List Sp) (B:Option Addr) (m d:Nat):Prop :=
 RX X rb F ⟨s.T,s.bad,s.lost||zAG F.L n⟩∧Blk X a0 opT zC∧Blk X a1 opT #[D J k,D J f,D J ff,D J 0,G far,D J 0,H B m d,G over]∧w.grownBy X (Z rb) ∧
  Row X (a1+1) 5 B m d (path.flatMap zIo)∧m=path.length∧oOf F.L n=⟨k,f,⟨ff,0,far,0⟩,path,over⟩∧zAJ S=zRX n r
def zCF (w:World) (rb a0 a1 a2:Nat) (F:Fm) (s:RS) (S:List UInt8) (l q:Nat) (X:World) (r:List UInt8):Prop :=
 (l=0∧q=1∧Sc0 w rb a0 F s S X)
 ∨ (l=1∧q=3∧∃n k f ff far,Sc1 w rb a0 a1 F s S X r n k f ff far)
 ∨ (l=2∧q=10+r.length∧∃f fi P Ps B m d N x0 x1 x3 x2,Sc2 w rb a0 a1 a2 F s S X r f fi P Ps B m d N x0 x1 x3 x2)
 ∨ (l=3∧q=2∧∃n k f ff far over path B m d,Sc3 w rb a0 a1 F s S X r n k f ff far over path B m d)
abbrev zKJ (rb a0 a1 a2:Nat) (a:Act) (r:List UInt8):Prop :=
 a.tmps.size=136∧a.tmps.getD 0 undef=.pointer (Z ⟨rb,0,U⟩)∧a.tmps.getD 1 undef=W (bA r)∧a.tmps.getD 4 undef=.pointer (Z ⟨a0,0,U⟩)∧a.tmps.getD 5 undef=.pointer (Z ⟨a1,0,U⟩)∧a.tmps.getD 7 undef=.pointer (Z ⟨a2,0,U⟩)∧a.defers=[]
theorem zFA (S:List UInt8):zGS S=match zCK S with | some (b,r)=>(b,r,Q) | none=>(E,S,E):=by
 cases S with
 | nil=>rfl
 | cons x r =>
  by_cases h1:x=111
  ·simp [zGS,zCK,h1]
  ·by_cases h2:x=117
   ·simp [zGS,zCK,h2]
   ·simp [zGS,zCK,h1,h2]
theorem zRY (b:UInt8):Lib.indexByte [32,45,94,60,126,61,42,37,33] b=if b=32 then 0 else if zAK b=0 then -1 else zAK b:=by
 by_cases h0:b=32
 ·subst h0;decide
 rw [if_neg h0];by_cases h:zAK b=0
 ·rw [if_pos h];refine zPu fun hm=>?_
  simp only [List.mem_cons,List.not_mem_nil,or_false] at hm;rcases hm with rfl | rfl | rfl | rfl | rfl | rfl | rfl | rfl | rfl
  ·exact h0 rfl
  all_goals exact absurd h (by decide)
 ·rw [if_neg h];have hb:=(zEd h).2.2;obtain ⟨h1,h8,_⟩:=zEd h;have hk:zAK b=1∨zAK b=2∨zAK b=3∨zAK b=4∨zAK b=5∨zAK b=6∨zAK b=7∨zAK b=8:=by omega
  rcases hk with e | e | e | e | e | e | e | e<;>rw [e] at hb ⊢<;>(have hbb:_=b:=List.head_eq_of_cons_eq hb;rw [←hbb];decide)
theorem zJH (b:UInt8) (w:World):Calls Tryz.prog 161 #[W ⟨#[32,45,94,60,126,61,42,37,33]⟩,D .u8 b.toNat] w fun e w'=>e=.returned (D J (if b=32 then 0 else if zAK b=0 then -1 else zAK b))∧w'=w:=by
 refine (Tryz.strings_IndexByte ⟨#[32,45,94,60,126,61,42,37,33]⟩ b.toNat w).mono ?_;rintro e w' ⟨rfl,rfl⟩;refine ⟨?_,rfl⟩;rw [←zRY]
 congr 3
 simp
theorem zLZ (S:List UInt8):zAJ S=match zFV S with
 | some (f,b :: r)=>if zAK b=0 then U
  else if zAK b=4 then zEf ⟨4,f,U,[],E⟩ (zCK r)
  else if zAK b=3 then zQc f (zGj (r.length+1) [] r)
  else if zAK b=5 then (match zBj r with | some (g,far,r2)=>zEf ⟨5,f,Z ⟨g,0,far,0⟩,[],E⟩ (zCK r2) | none=>U)
  else if zAK b=6∨zAK b=7 then (match zFV r with | some (g,r2)=>zEf ⟨zAK b,f,Z ⟨g,0,E,0⟩,[],E⟩ (zCK r2) | none=>U)
  else zRX ⟨zAK b,f,U,[],E⟩ r
 | _=>U:=by
 unfold zAJ
 cases zFV S with
 | none=>rfl
 | some p =>
  obtain ⟨f,q⟩:=p
  cases q with
  | nil=>rfl
  | cons b r =>
   simp only;by_cases e0:zAK b=0
   ·rw [if_neg (by omega),if_neg (by omega),if_neg (by omega),if_neg (by omega),if_pos e0,if_pos e0]
   rw [if_neg e0,if_neg e0];by_cases e4:zAK b=4
   ·rw [if_pos e4,if_pos e4];unfold zRT zEf;split<;>simp_all
   rw [if_neg e4,if_neg e4];by_cases e3:zAK b=3
   ·rw [if_pos e3,if_pos e3];rfl
   rw [if_neg e3,if_neg e3];by_cases e5:zAK b=5
   ·rw [if_pos e5,if_pos e5];unfold zRU zEf;split
    ·rename_i g far r2 h;rw [h];split<;>simp_all
    ·rename_i h;rw [h]
   rw [if_neg e5,if_neg e5];by_cases e6:zAK b=6∨zAK b=7
   ·rw [if_pos e6,if_pos e6];unfold zRV zEf;split
    ·rename_i g r2 h;rw [h];split<;>simp_all
    ·rename_i h;rw [h]
   rw [if_neg e6,if_neg e6];rfl
def zGo:Code→Code
 | .scope c=>c
 | .seq _ y=>zGo y
 | c=>c
noncomputable def zKK:Code:=zGo (Tryz.f120.body.getD .skip)
abbrev zBe (w:World) (rb a1 a2:Nat) (F:Fm) (s:RS) (S:List UInt8) (l q:Nat) (a:Act) (wv:World):Prop :=
 ∃(X:World) (r:List UInt8),X=wv∧zKJ rb w.heap.size a1 a2 a r∧Hid (zCF w rb w.heap.size a1 a2 F s S l q X r)
abbrev zRZ (w:World) (rb:Nat) (F:Fm) (s:RS) (S:List UInt8):Exit→Act→World→Prop:=bodyPost Tryz.prog Tryz.f120 (zCm w rb F s S)
set_option maxHeartbeats 12800000 in
set_option maxRecDepth 100000 in
theorem zOd (rb:Nat) (F:Fm) (s:RS) (S:List UInt8) (w:World) (hlt0:rb < w.heap.size) (a1 a2:Nat) (bB:a1=w.heap.size+1) (eP:a2=w.heap.size+2) (r:List UInt8) (q:Nat) (hq:q=1) (a:Act) (X:World) (hF:zKJ rb w.heap.size a1 a2 a r)  (hJ:Sc0 w rb w.heap.size F s S X) :
  ∃rest,findLabel zKK 0=Z rest∧rest.wp Tryz.prog (zEb (fun l' a' w'=>∃n',n' < q∧zBe w rb a1 a2 F s S l' n' a' w') (zRZ w rb F s S)) a X:=by
 have hlt:=hlt0
 have FS:=qH (fun (n:Nop) (o:Og) (hn:zAJ S=Z n) (ho:oOf F.L n=o) (wx:World) (B:Option Addr) (m d:Nat) (hr:Row wx w.heap.size 5 B m d (o.path.flatMap zIo)) (hm:m=o.path.length) (hx:RX wx rb F ⟨s.T,s.bad,s.lost||zAG F.L n⟩) (hg:w.grownBy wx (Z rb)) =>
  (show zCm w rb F s S (.returned (opV o B m d)) wx from .inl ⟨n,hn,B,m,d,by rw [ho],by rw [ho];exact hr,by rw [ho];exact hm,hx,hg⟩))
 have FN:=qH (fun (hn:zAJ S=U) (wx:World) (hx:∃l,RX wx rb F ⟨s.T,Q,l⟩) (hg:w.grownBy wx (Z rb))=>(show zCm w rb F s S (.returned (opV zop U 0 0)) wx from .inr ⟨hn,rfl,hx,hg⟩));have bop:=zKH;have iA:=qH bB;have ug:=qH eP;have bh:rb < w.heap.size:=hlt;have ap:rb < a1:=by omega
 have ck:rb < a2:=by omega
 have jl:w.heap.size≤w.heap.size:=Nat.le_refl _;have aK:w.heap.size≤a1:=by omega
 have fh:w.heap.size≤a2:=by omega
 have fD:w.heap.size < a1:=by omega
 have mn:w.heap.size < a2:=by omega
 have iR:a1 < a2:=by omega
 have HQ:=qH hq;clear bB eP hq hlt hlt0;obtain ⟨tm,df⟩:=a;obtain ⟨hs,t0,t1,t4,t5,t7,hd⟩:=hF;simp only at hs t0 t1 t4 t5 t7 hd;subst hd;obtain ⟨v,hv⟩:∃v:Nat→Value,tm=#[.pointer (Z ⟨rb,0,U⟩),W (bA r),v 2,v 3,.pointer (Z ⟨w.heap.size,0,U⟩),.pointer (Z ⟨a1,0,U⟩),v 6,.pointer (Z ⟨a2,0,U⟩),v 8,v 9,v 10,v 11,v 12,v 13,v 14,v 15,v 16,v 17,v 18,v 19,v 20,v 21,v 22,v 23,v 24,v 25,v 26,v 27,v 28,v 29,v 30,v 31,v 32,v 33,v 34,v 35,v 36,v 37,v 38,v 39,v 40,v 41,v 42,v 43,v 44,v 45,v 46,v 47,v 48,v 49,v 50,v 51,v 52,v 53,v 54,v 55,v 56,v 57,v 58,v 59,v 60,v 61,v 62,v 63,v 64,v 65,v 66,v 67,v 68,v 69,v 70,v 71,v 72,v 73,v 74,v 75,v 76,v 77,v 78,v 79,v 80,v 81,v 82,v 83,v 84,v 85,v 86,v 87,v 88,v 89,v 90,v 91,v 92,v 93,v 94,v 95,v 96,v 97,v 98,v 99,v 100,v 101,v 102,v 103,v 104,v 105,v 106,v 107,v 108,v 109,v 110,v 111,v 112,v 113,v 114,v 115,v 116,v 117,v 118,v 119,v 120,v 121,v 122,v 123,v 124,v 125,v 126,v 127,v 128,v 129,v 130,v 131,v 132,v 133,v 134,v 135]:=⟨fun i=>tm.getD i undef,by rw [←t0,←t1,←t4,←t5,←t7];exact zFz 136 tm hs⟩
 subst hv;clear hs t0 t1 t4 t5 t7;simp only [zKK,Tryz.f120,Option.getD,zGo,findLabel];refine ⟨_,rfl,?_⟩;obtain ⟨⟨lo,h1⟩,kr,g1,hn⟩:=hJ;have HN:=qH hn;clear hn;have c4:X.cell? ⟨rb,4,U⟩=Z (G s.bad):=h1.bad4.1;have z4:=h1.bad4.2;have hm:=h1.marked Q Q (by simp);have ew:∃l,RX (X.setCell ⟨rb,4,U⟩ (G Q)) rb F ⟨s.T,Q,l⟩:=⟨_,by have:=hm.1;unfold RS.mark at this;simpa using this⟩
 have k9:=kr.grownO hm.2 bh;have g9:=zAb g1 hm.2;clear hm h1 g1 kr;go_upto_region 39 with fail
 clear c4 z4;generalize X.setCell ⟨rb,4,U⟩ (G Q)=X9 at ew k9 g9 ⊢;have y0:X9.cell? ⟨w.heap.size,0,U⟩=Z (D J 0):=(k9.cell 0).trans rfl;have iC:=k9.frozen 0;have y1:X9.cell? ⟨w.heap.size,1,U⟩=Z (D J 0):=(k9.cell 1).trans rfl;have iB:=k9.frozen 1;have y2:X9.cell? ⟨w.heap.size,2,U⟩=Z (D J 0):=(k9.cell 2).trans rfl;have jF:=k9.frozen 2;have y3:X9.cell? ⟨w.heap.size,3,U⟩=Z (D J 0):=(k9.cell 3).trans rfl;have jE:=k9.frozen 3;have y4:X9.cell? ⟨w.heap.size,4,U⟩=Z (G E):=(k9.cell 4).trans rfl;have jD:=k9.frozen 4;have y5:X9.cell? ⟨w.heap.size,5,U⟩=Z (D J 0):=(k9.cell 5).trans rfl;have jC:=k9.frozen 5;have y6:X9.cell? ⟨w.heap.size,6,U⟩=Z (H U 0 0):=(k9.cell 6).trans rfl;have jB:=k9.frozen 6;have y7:X9.cell? ⟨w.heap.size,7,U⟩=Z (G E):=(k9.cell 7).trans rfl;have jA:=k9.frozen 7;have SZ:=qH (k9.store8 (D J 0) (D J 0) (D J 0) (D J 0) (G E) (D J 0) (H U 0 0) (G E));have BR:=qH (zAg (Below.refl (rb+1) X9) (show rb+1≤w.heap.size from bh) (D J 0) (D J 0) (D J 0) (D J 0) (G E) (D J 0) (H U 0 0) (G E));have BW:=qH (zAg (Below.refl w.heap.size X9) jl (D J 0) (D J 0) (D J 0) (D J 0) (G E) (D J 0) (H U 0 0) (G E));have HF:=qH (FN.out HN.out _ (by obtain ⟨l,hl⟩:=ew;exact ⟨l,hl.over BR.out⟩) (zAd g9 BW.out));clear ew k9 g9 BR BW;go_wp2_with fail
 rw [zDh];exact zAH rfl rfl SZ.out Tryz.underlying32 rfl (by kernel_rfl) rfl HF.out
set_option maxHeartbeats 12800000 in
set_option maxRecDepth 100000 in
theorem zOe (rb:Nat) (F:Fm) (s:RS) (S:List UInt8) (w:World) (hlt0:rb < w.heap.size) (a1 a2:Nat) (bB:a1=w.heap.size+1) (eP:a2=w.heap.size+2) (r:List UInt8) (q:Nat) (hq:q=2) (a:Act) (X:World) (hF:zKJ rb w.heap.size a1 a2 a r) (n:Nop) (k f ff:Int) (far over:Bool) (path:List Sp) (B:Option Addr) (m d:Nat) (hJ:Sc3 w rb w.heap.size a1 F s S X r n k f ff far over path B m d) :
  ∃rest,findLabel zKK 3=Z rest∧rest.wp Tryz.prog (zEb (fun l' a' w'=>∃n',n' < q∧zBe w rb a1 a2 F s S l' n' a' w') (zRZ w rb F s S)) a X:=by
 have hlt:=hlt0
 have FS:=qH (fun (n:Nop) (o:Og) (hn:zAJ S=Z n) (ho:oOf F.L n=o) (wx:World) (B:Option Addr) (m d:Nat) (hr:Row wx w.heap.size 5 B m d (o.path.flatMap zIo)) (hm:m=o.path.length) (hx:RX wx rb F ⟨s.T,s.bad,s.lost||zAG F.L n⟩) (hg:w.grownBy wx (Z rb)) =>
  (show zCm w rb F s S (.returned (opV o B m d)) wx from .inl ⟨n,hn,B,m,d,by rw [ho],by rw [ho];exact hr,by rw [ho];exact hm,hx,hg⟩))
 have FN:=qH (fun (hn:zAJ S=U) (wx:World) (hx:∃l,RX wx rb F ⟨s.T,Q,l⟩) (hg:w.grownBy wx (Z rb))=>(show zCm w rb F s S (.returned (opV zop U 0 0)) wx from .inr ⟨hn,rfl,hx,hg⟩));have bop:=zKH;have iA:=qH bB;have ug:=qH eP;have bh:rb < w.heap.size:=hlt;have ap:rb < a1:=by omega
 have ck:rb < a2:=by omega
 have jl:w.heap.size≤w.heap.size:=Nat.le_refl _;have aK:w.heap.size≤a1:=by omega
 have fh:w.heap.size≤a2:=by omega
 have fD:w.heap.size < a1:=by omega
 have mn:w.heap.size < a2:=by omega
 have iR:a1 < a2:=by omega
 have HQ:=qH hq;clear bB eP hq hlt hlt0;obtain ⟨tm,df⟩:=a;obtain ⟨hs,t0,t1,t4,t5,t7,hd⟩:=hF;simp only at hs t0 t1 t4 t5 t7 hd;subst hd;obtain ⟨v,hv⟩:∃v:Nat→Value,tm=#[.pointer (Z ⟨rb,0,U⟩),W (bA r),v 2,v 3,.pointer (Z ⟨w.heap.size,0,U⟩),.pointer (Z ⟨a1,0,U⟩),v 6,.pointer (Z ⟨a2,0,U⟩),v 8,v 9,v 10,v 11,v 12,v 13,v 14,v 15,v 16,v 17,v 18,v 19,v 20,v 21,v 22,v 23,v 24,v 25,v 26,v 27,v 28,v 29,v 30,v 31,v 32,v 33,v 34,v 35,v 36,v 37,v 38,v 39,v 40,v 41,v 42,v 43,v 44,v 45,v 46,v 47,v 48,v 49,v 50,v 51,v 52,v 53,v 54,v 55,v 56,v 57,v 58,v 59,v 60,v 61,v 62,v 63,v 64,v 65,v 66,v 67,v 68,v 69,v 70,v 71,v 72,v 73,v 74,v 75,v 76,v 77,v 78,v 79,v 80,v 81,v 82,v 83,v 84,v 85,v 86,v 87,v 88,v 89,v 90,v 91,v 92,v 93,v 94,v 95,v 96,v 97,v 98,v 99,v 100,v 101,v 102,v 103,v 104,v 105,v 106,v 107,v 108,v 109,v 110,v 111,v 112,v 113,v 114,v 115,v 116,v 117,v 118,v 119,v 120,v 121,v 122,v 123,v 124,v 125,v 126,v 127,v 128,v 129,v 130,v 131,v 132,v 133,v 134,v 135]:=⟨fun i=>tm.getD i undef,by rw [←t0,←t1,←t4,←t5,←t7];exact zFz 136 tm hs⟩
 subst hv;clear hs t0 t1 t4 t5 t7;simp only [zKK,Tryz.f120,Option.getD,zGo,findLabel];refine ⟨_,rfl,?_⟩;obtain ⟨h1,kr,ko,g1,hrow,hm,ho,hn⟩:=hJ;have HO:=qH ho;have HM:=qH hm;have n0:=zAL r [];clear ho hm
 cases r with
 | nil =>
  rw [show (([]:List UInt8)==[])=Q from rfl] at n0;have HN:=qH (show zAJ S=Z n by rw [hn];rfl);have B9:=qH hrow;clear hn hrow;obtain ⟨f0,f1,f2,f3,f4,f5,f6,f7⟩:=cQ8 ko;have y0:X.cell? ⟨w.heap.size,0,U⟩=Z (D J 0):=(kr.cell 0).trans rfl;have iC:=kr.frozen 0;have y1:X.cell? ⟨w.heap.size,1,U⟩=Z (D J 0):=(kr.cell 1).trans rfl;have iB:=kr.frozen 1;have y2:X.cell? ⟨w.heap.size,2,U⟩=Z (D J 0):=(kr.cell 2).trans rfl;have jF:=kr.frozen 2;have y3:X.cell? ⟨w.heap.size,3,U⟩=Z (D J 0):=(kr.cell 3).trans rfl;have jE:=kr.frozen 3;have y4:X.cell? ⟨w.heap.size,4,U⟩=Z (G E):=(kr.cell 4).trans rfl;have jD:=kr.frozen 4;have y5:X.cell? ⟨w.heap.size,5,U⟩=Z (D J 0):=(kr.cell 5).trans rfl;have jC:=kr.frozen 5;have y6:X.cell? ⟨w.heap.size,6,U⟩=Z (H U 0 0):=(kr.cell 6).trans rfl;have jB:=kr.frozen 6;have y7:X.cell? ⟨w.heap.size,7,U⟩=Z (G E):=(kr.cell 7).trans rfl;have jA:=kr.frozen 7;have SZ:=qH (kr.store8 (D J k) (D J f) (D J ff) (D J 0) (G far) (D J 0) (H B m d) (G over));have BR:=qH (zAg (Below.refl (rb+1) X) (show rb+1≤w.heap.size from bh) (D J k) (D J f) (D J ff) (D J 0) (G far) (D J 0) (H B m d) (G over));have BW:=qH (zAg (Below.refl w.heap.size X) jl (D J k) (D J f) (D J ff) (D J 0) (G far) (D J 0) (H B m d) (G over));have HF:=qH (FS.out n ⟨k,f,⟨ff,0,far,0⟩,path,over⟩ HN.out HO.out _ B m d ((B9.out.store8 (show w.heap.size < a1+1 by omega) (D J k) (D J f) (D J ff) (D J 0) (G far) (D J 0) (H B m d) (G over)).mono (by omega)) HM.out (h1.over BR.out) (zAd g1 BW.out));clear BR BW h1 g1 kr ko;go_wp2_with fail
  rw [zDh];exact zAH rfl rfl SZ.out Tryz.underlying32 rfl (by kernel_rfl) rfl HF.out
 | cons x r =>
  rw [show (x :: r==([]:List UInt8))=E from rfl] at n0;have HN:=qH (show zAJ S=U by rw [hn];rfl);clear hn hrow;go_wp2_with fail
  go_step3
  have c4:X.cell? ⟨rb,4,U⟩=Z (G s.bad):=h1.bad4.1;have z4:=h1.bad4.2;have hm:=h1.marked Q Q (by simp);have ew:∃l,RX (X.setCell ⟨rb,4,U⟩ (G Q)) rb F ⟨s.T,Q,l⟩:=⟨_,by have:=hm.1;unfold RS.mark at this;simpa using this⟩
  have k9:=kr.grownO hm.2 bh;have g9:=zAb g1 hm.2;clear hm h1 g1 kr ko;go_upto_region 39 with fail
  clear c4 z4;generalize X.setCell ⟨rb,4,U⟩ (G Q)=X9 at ew k9 g9 ⊢;have y0:X9.cell? ⟨w.heap.size,0,U⟩=Z (D J 0):=(k9.cell 0).trans rfl;have iC:=k9.frozen 0;have y1:X9.cell? ⟨w.heap.size,1,U⟩=Z (D J 0):=(k9.cell 1).trans rfl;have iB:=k9.frozen 1;have y2:X9.cell? ⟨w.heap.size,2,U⟩=Z (D J 0):=(k9.cell 2).trans rfl;have jF:=k9.frozen 2;have y3:X9.cell? ⟨w.heap.size,3,U⟩=Z (D J 0):=(k9.cell 3).trans rfl;have jE:=k9.frozen 3;have y4:X9.cell? ⟨w.heap.size,4,U⟩=Z (G E):=(k9.cell 4).trans rfl;have jD:=k9.frozen 4;have y5:X9.cell? ⟨w.heap.size,5,U⟩=Z (D J 0):=(k9.cell 5).trans rfl;have jC:=k9.frozen 5;have y6:X9.cell? ⟨w.heap.size,6,U⟩=Z (H U 0 0):=(k9.cell 6).trans rfl;have jB:=k9.frozen 6;have y7:X9.cell? ⟨w.heap.size,7,U⟩=Z (G E):=(k9.cell 7).trans rfl;have jA:=k9.frozen 7;have SZ:=qH (k9.store8 (D J 0) (D J 0) (D J 0) (D J 0) (G E) (D J 0) (H U 0 0) (G E));have BR:=qH (zAg (Below.refl (rb+1) X9) (show rb+1≤w.heap.size from bh) (D J 0) (D J 0) (D J 0) (D J 0) (G E) (D J 0) (H U 0 0) (G E));have BW:=qH (zAg (Below.refl w.heap.size X9) jl (D J 0) (D J 0) (D J 0) (D J 0) (G E) (D J 0) (H U 0 0) (G E));have HF:=qH (FN.out HN.out _ (by obtain ⟨l,hl⟩:=ew;exact ⟨l,hl.over BR.out⟩) (zAd g9 BW.out));clear ew k9 g9 BR BW;go_wp2_with fail
  rw [zDh];exact zAH rfl rfl SZ.out Tryz.underlying32 rfl (by kernel_rfl) rfl HF.out
set_option maxHeartbeats 12800000 in
set_option maxRecDepth 100000 in
theorem zOf (rb:Nat) (F:Fm) (s:RS) (S:List UInt8) (w:World) (hlt0:rb < w.heap.size) (a1 a2:Nat) (bB:a1=w.heap.size+1) (eP:a2=w.heap.size+2) (r:List UInt8) (q:Nat) (hq:q=3) (a:Act) (X:World) (hF:zKJ rb w.heap.size a1 a2 a r) (n:Nop) (k f ff:Int) (far:Bool) (hJ:Sc1 w rb w.heap.size a1 F s S X r n k f ff far) :
  ∃rest,findLabel zKK 1=Z rest∧rest.wp Tryz.prog (zEb (fun l' a' w'=>∃n',n' < q∧zBe w rb a1 a2 F s S l' n' a' w') (zRZ w rb F s S)) a X:=by
 have hlt:=hlt0
 have FS:=qH (fun (n:Nop) (o:Og) (hn:zAJ S=Z n) (ho:oOf F.L n=o) (wx:World) (B:Option Addr) (m d:Nat) (hr:Row wx w.heap.size 5 B m d (o.path.flatMap zIo)) (hm:m=o.path.length) (hx:RX wx rb F ⟨s.T,s.bad,s.lost||zAG F.L n⟩) (hg:w.grownBy wx (Z rb)) =>
  (show zCm w rb F s S (.returned (opV o B m d)) wx from .inl ⟨n,hn,B,m,d,by rw [ho],by rw [ho];exact hr,by rw [ho];exact hm,hx,hg⟩))
 have FN:=qH (fun (hn:zAJ S=U) (wx:World) (hx:∃l,RX wx rb F ⟨s.T,Q,l⟩) (hg:w.grownBy wx (Z rb))=>(show zCm w rb F s S (.returned (opV zop U 0 0)) wx from .inr ⟨hn,rfl,hx,hg⟩));have bh:rb < w.heap.size:=hlt;have ap:rb < a1:=by omega
 have jl:w.heap.size≤w.heap.size:=Nat.le_refl _;have aK:w.heap.size≤a1:=by omega
 have fD:w.heap.size < a1:=by omega
 have HQ:=qH hq;clear bB eP hq hlt hlt0;obtain ⟨tm,df⟩:=a;obtain ⟨hs,t0,t1,t4,t5,t7,hd⟩:=hF;simp only at hs t0 t1 t4 t5 t7 hd;subst hd;obtain ⟨v,hv⟩:∃v:Nat→Value,tm=#[.pointer (Z ⟨rb,0,U⟩),W (bA r),v 2,v 3,.pointer (Z ⟨w.heap.size,0,U⟩),.pointer (Z ⟨a1,0,U⟩),v 6,.pointer (Z ⟨a2,0,U⟩),v 8,v 9,v 10,v 11,v 12,v 13,v 14,v 15,v 16,v 17,v 18,v 19,v 20,v 21,v 22,v 23,v 24,v 25,v 26,v 27,v 28,v 29,v 30,v 31,v 32,v 33,v 34,v 35,v 36,v 37,v 38,v 39,v 40,v 41,v 42,v 43,v 44,v 45,v 46,v 47,v 48,v 49,v 50,v 51,v 52,v 53,v 54,v 55,v 56,v 57,v 58,v 59,v 60,v 61,v 62,v 63,v 64,v 65,v 66,v 67,v 68,v 69,v 70,v 71,v 72,v 73,v 74,v 75,v 76,v 77,v 78,v 79,v 80,v 81,v 82,v 83,v 84,v 85,v 86,v 87,v 88,v 89,v 90,v 91,v 92,v 93,v 94,v 95,v 96,v 97,v 98,v 99,v 100,v 101,v 102,v 103,v 104,v 105,v 106,v 107,v 108,v 109,v 110,v 111,v 112,v 113,v 114,v 115,v 116,v 117,v 118,v 119,v 120,v 121,v 122,v 123,v 124,v 125,v 126,v 127,v 128,v 129,v 130,v 131,v 132,v 133,v 134,v 135]:=⟨fun i=>tm.getD i undef,by rw [←t0,←t1,←t4,←t5,←t7];exact zFz 136 tm hs⟩
 subst hv;clear hs t0 t1 t4 t5 t7;simp only [zKK,Tryz.f120,Option.getD,zGo,findLabel];refine ⟨_,rfl,?_⟩;obtain ⟨h1,kr,ko,g1,hn,hp,ho⟩:=hJ;have HO:=qH ho;have cU:=qH (fun wx=>zEo r wx);rw [zFA] at cU;clear ho hp
 cases hfl:zCK r with
 | none =>
  rw [hfl] at cU;have HN:=qH (show zAJ S=U by rw [hn,hfl];rfl);clear hn hfl;go_wp2_with fail
  refine (cU.out X).mono ?_;rintro e iu ⟨rfl,fC⟩;have gH:=kr.below fC kr.lt;have mz:=ko.below fC ko.lt;have kK:=h1.below fC;have kO:=zAb g1 (zAt (row:=Z rb) fC);clear h1 g1 kr ko fC cU;have xh:=mz.frozen 7;have yh:iu.cell? ⟨a1,7,U⟩=Z (G E):=(mz.cell 7).trans rfl;have jG:Below (rb+1) iu (iu.setCell ⟨a1,7,U⟩ (G E)):=(Below.refl _ _).setCell (p:=⟨a1,7,U⟩) ap _;have pS:Below w.heap.size iu (iu.setCell ⟨a1,7,U⟩ (G E)):=(Below.refl _ _).setCell (p:=⟨a1,7,U⟩) aK _;have cS:=gH.far (p:=⟨a1,7,U⟩) (by simp only;omega) (G E);have dc:=kK.over jG;have dA:=zAd kO pS;clear kK kO gH mz jG pS;have HG:=qH (show zCF w rb w.heap.size a1 a2 F s S 0 (1) (iu.setCell ⟨a1,7,U⟩ (G E)) (r) from .inl ⟨rfl,rfl,⟨⟨_,dc⟩,cS,dA,HN.out⟩⟩);clear dc dA cS;go_wp2_with fail
  go_step3
  refine (show ∃n',n' < q∧zBe w rb a1 a2 F s S 0 n' _ _ from ?_);exact ⟨_,by have:=HQ.out;omega,_,r,rfl,⟨rfl,rfl,rfl,rfl,rfl,rfl,rfl⟩,HG⟩
 | some p =>
  obtain ⟨b,r2⟩:=p;rw [hfl] at cU hn;have n0:=zAL r2 [];clear hfl
  cases r2 with
  | nil =>
   rw [show (([]:List UInt8)==[])=Q from rfl] at n0;have HN:=qH (show zAJ S=Z ⟨n.kind,n.f,n.fr,n.path,b⟩ by rw [hn];rfl);clear hn;go_wp2_with fail
   refine (cU.out X).mono ?_;rintro e fy ⟨rfl,uz⟩;have qq:=kr.below uz kr.lt;have kB:=ko.below uz ko.lt;have vY:=h1.below uz;have wm:=zAb g1 (zAt (row:=Z rb) uz);clear h1 g1 kr ko uz cU;have z24:=kB.frozen 7;have BJ:fy.cell? ⟨a1,7,U⟩=Z (G E):=(kB.cell 7).trans rfl;have aI:Blk (fy.setCell ⟨a1,7,U⟩ (G b)) a1 32 #[D J k,D J f,D J ff,D J 0,G far,D J 0,H U 0 0,G b]:=kB.set_ 7 _;have uy:Below (rb+1) fy (fy.setCell ⟨a1,7,U⟩ (G b)):=(Below.refl _ _).setCell (p:=⟨a1,7,U⟩) ap _;have uD:Below w.heap.size fy (fy.setCell ⟨a1,7,U⟩ (G b)):=(Below.refl _ _).setCell (p:=⟨a1,7,U⟩) aK _;have am:=qq.far (p:=⟨a1,7,U⟩) (by simp only;omega) (G b);have dn:=vY.over uy;have dr:=zAd wm uD;clear vY wm qq kB uy uD;go_wp2_with fail
   go_step3
   clear z24 BJ;generalize fy.setCell ⟨a1,7,U⟩ (G b)=kU at dn dr am aI ⊢;obtain ⟨f0,f1,f2,f3,f4,f5,f6,f7⟩:=cQ8 aI;have y0:kU.cell? ⟨w.heap.size,0,U⟩=Z (D J 0):=(am.cell 0).trans rfl;have iC:=am.frozen 0;have y1:kU.cell? ⟨w.heap.size,1,U⟩=Z (D J 0):=(am.cell 1).trans rfl;have iB:=am.frozen 1;have y2:kU.cell? ⟨w.heap.size,2,U⟩=Z (D J 0):=(am.cell 2).trans rfl;have jF:=am.frozen 2;have y3:kU.cell? ⟨w.heap.size,3,U⟩=Z (D J 0):=(am.cell 3).trans rfl;have jE:=am.frozen 3;have y4:kU.cell? ⟨w.heap.size,4,U⟩=Z (G E):=(am.cell 4).trans rfl;have jD:=am.frozen 4;have y5:kU.cell? ⟨w.heap.size,5,U⟩=Z (D J 0):=(am.cell 5).trans rfl;have jC:=am.frozen 5;have y6:kU.cell? ⟨w.heap.size,6,U⟩=Z (H U 0 0):=(am.cell 6).trans rfl;have jB:=am.frozen 6;have y7:kU.cell? ⟨w.heap.size,7,U⟩=Z (G E):=(am.cell 7).trans rfl;have jA:=am.frozen 7;have SZ:=qH (am.store8 (D J k) (D J f) (D J ff) (D J 0) (G far) (D J 0) (H U 0 0) (G b));have BR:=qH (zAg (Below.refl (rb+1) kU) (show rb+1≤w.heap.size from bh) (D J k) (D J f) (D J ff) (D J 0) (G far) (D J 0) (H U 0 0) (G b));have BW:=qH (zAg (Below.refl w.heap.size kU) jl (D J k) (D J f) (D J ff) (D J 0) (G far) (D J 0) (H U 0 0) (G b));have HF:=qH (FS.out ⟨n.kind,n.f,n.fr,n.path,b⟩ ⟨k,f,⟨ff,0,far,0⟩,[],b⟩ HN.out (HO.out b) _ U 0 0 (Row.none_ _ _ _) rfl (dn.over BR.out) (zAd dr BW.out));clear BR BW dn dr am aI;go_wp2_with fail
   rw [zDh];exact zAH rfl rfl SZ.out Tryz.underlying32 rfl (by kernel_rfl) rfl HF.out
  | cons x r2 =>
   rw [show (x :: r2==([]:List UInt8))=E from rfl] at n0;have HN:=qH (show zAJ S=U by rw [hn];rfl);clear hn;go_wp2_with fail
   refine (cU.out X).mono ?_;rintro e fZ ⟨rfl,eU⟩;have gF:=kr.below eU kr.lt;have mw:=ko.below eU ko.lt;have kJ:=h1.below eU;have kM:=zAb g1 (zAt (row:=Z rb) eU);clear h1 g1 kr ko eU cU;have yJ:=mw.frozen 7;have BI:fZ.cell? ⟨a1,7,U⟩=Z (G E):=(mw.cell 7).trans rfl;have ij:Below (rb+1) fZ (fZ.setCell ⟨a1,7,U⟩ (G b)):=(Below.refl _ _).setCell (p:=⟨a1,7,U⟩) ap _;have uC:Below w.heap.size fZ (fZ.setCell ⟨a1,7,U⟩ (G b)):=(Below.refl _ _).setCell (p:=⟨a1,7,U⟩) aK _;have fq:=gF.far (p:=⟨a1,7,U⟩) (by simp only;omega) (G b);have fR:=kJ.over ij;have gY:=zAd kM uC;clear kJ kM gF mw ij uC;go_wp2_with fail
   go_step3
   clear yJ BI;generalize fZ.setCell ⟨a1,7,U⟩ (G b)=nE at fR gY fq ⊢;go_wp2_with fail
   go_step3
   have c4:nE.cell? ⟨rb,4,U⟩=Z (G s.bad):=fR.bad4.1;have z4:=fR.bad4.2;have hm:=fR.marked Q Q (by simp);have ew:∃l,RX (nE.setCell ⟨rb,4,U⟩ (G Q)) rb F ⟨s.T,Q,l⟩:=⟨_,by have:=hm.1;unfold RS.mark at this;simpa using this⟩
   have k9:=fq.grownO hm.2 bh;have g9:=zAb gY hm.2;clear hm fR gY fq;go_upto_region 39 with fail
   clear c4 z4;generalize nE.setCell ⟨rb,4,U⟩ (G Q)=X9 at ew k9 g9 ⊢;have y0:X9.cell? ⟨w.heap.size,0,U⟩=Z (D J 0):=(k9.cell 0).trans rfl;have iC:=k9.frozen 0;have y1:X9.cell? ⟨w.heap.size,1,U⟩=Z (D J 0):=(k9.cell 1).trans rfl;have iB:=k9.frozen 1;have y2:X9.cell? ⟨w.heap.size,2,U⟩=Z (D J 0):=(k9.cell 2).trans rfl;have jF:=k9.frozen 2;have y3:X9.cell? ⟨w.heap.size,3,U⟩=Z (D J 0):=(k9.cell 3).trans rfl;have jE:=k9.frozen 3;have y4:X9.cell? ⟨w.heap.size,4,U⟩=Z (G E):=(k9.cell 4).trans rfl;have jD:=k9.frozen 4;have y5:X9.cell? ⟨w.heap.size,5,U⟩=Z (D J 0):=(k9.cell 5).trans rfl;have jC:=k9.frozen 5;have y6:X9.cell? ⟨w.heap.size,6,U⟩=Z (H U 0 0):=(k9.cell 6).trans rfl;have jB:=k9.frozen 6;have y7:X9.cell? ⟨w.heap.size,7,U⟩=Z (G E):=(k9.cell 7).trans rfl;have jA:=k9.frozen 7;have SZ:=qH (k9.store8 (D J 0) (D J 0) (D J 0) (D J 0) (G E) (D J 0) (H U 0 0) (G E));have BR:=qH (zAg (Below.refl (rb+1) X9) (show rb+1≤w.heap.size from bh) (D J 0) (D J 0) (D J 0) (D J 0) (G E) (D J 0) (H U 0 0) (G E));have BW:=qH (zAg (Below.refl w.heap.size X9) jl (D J 0) (D J 0) (D J 0) (D J 0) (G E) (D J 0) (H U 0 0) (G E));have HF:=qH (FN.out HN.out _ (by obtain ⟨l,hl⟩:=ew;exact ⟨l,hl.over BR.out⟩) (zAd g9 BW.out));clear ew k9 g9 BR BW;go_wp2_with fail
   rw [zDh];exact zAH rfl rfl SZ.out Tryz.underlying32 rfl (by kernel_rfl) rfl HF.out
end Go.Proofs.YtlmdfmnbcndhoaaGreatDoor
