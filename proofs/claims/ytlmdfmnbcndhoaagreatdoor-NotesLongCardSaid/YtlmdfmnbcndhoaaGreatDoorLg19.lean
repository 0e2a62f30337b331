/-
  Lemmas for NotesLong, part 19: contracts and plain facts. Conditions: those that each theorem names.
-/
import Derived.Test.YtlmdfmnbcndhoaaGreatDoorLg17
import Derived.Test.YtlmdfmnbcndhoaaGreatDoorLg18
namespace Go.Proofs.YtlmdfmnbcndhoaaGreatDoor
open Go.RowKit
def zop:Og:=⟨0,0,s0,[],false⟩
def zCn (w0:World) (rb:Nat) (F:Fm) (s:RS) (S:List UInt8) (e:Ending) (w':World):Prop :=
 (∃n,zAH S=some n∧∃B m d,e=.returned (opV (oOf F.L n) B m d)∧Row w' w0.heap.size 5 B m d ((oOf F.L n).path.flatMap zIk)∧m=(oOf F.L n).path.length∧RX w' rb F ⟨s.T,s.bad,s.lost||zAF F.L n⟩∧w0.grownBy w' (some rb))
 ∨ (zAH S=none∧e=.returned (opV zop none 0 0)∧(∃l,RX w' rb F ⟨s.T,true,l⟩)∧w0.grownBy w' (some rb))
abbrev opT:TypeId:=32
abbrev zC:Array Value:=#[.int .i64 0,.int .i64 0,.int .i64 0,.int .i64 0,.bool false,.int .i64 0,.slice none 0 0,.bool false]
def zPx (f:Fg) (P:Option (List (Nst×Bool)×Nst)):Option Nop:=match P with | some (Q,x)=>some ⟨3,f,some x,Q,false⟩ | none=>none
def zEc (n:Nop) (P:Option (Bool×List UInt8)):Option Nop:=match P with | some (b,[])=>some ⟨n.kind,n.f,n.fr,n.path,b⟩ | _=>none
def zRq (n:Nop) (r:List UInt8):Option Nop:=if r=[] then some n else none
def Sc0 (w:World) (rb a0:Nat) (F:Fm) (s:RS) (S:List UInt8) (X:World):Prop :=
 (∃lo,RX X rb F ⟨s.T,s.bad,lo⟩)∧Blk X a0 opT zC∧w.grownBy X (some rb)∧zAH S=none
def Sc1 (w:World) (rb a0 a1:Nat) (F:Fm) (s:RS) (S:List UInt8) (X:World) (r:List UInt8) (n:Nop) (k f ff:Int) (far:Bool):Prop :=
 RX X rb F ⟨s.T,s.bad,s.lost||zAF F.L n⟩∧Blk X a0 opT zC∧Blk X a1 opT #[.int .i64 k,.int .i64 f,.int .i64 ff,.int .i64 0,.bool far,.int .i64 0,.slice none 0 0,.bool false]∧w.grownBy X (some rb) ∧
  zAH S=zEc n (zCL r)∧n.path=[]∧∀b,oOf F.L ⟨n.kind,n.f,n.fr,n.path,b⟩=⟨k,f,⟨ff,0,far,0⟩,[],b⟩
def Sc2 (w:World) (rb a0 a1 a2:Nat) (F:Fm) (s:RS) (S:List UInt8) (X:World) (r:List UInt8) (f:Fg) (fi:Int) (P:List (Nst×Bool)) (Ps:List Sp) (B:Option Addr) (m d N:Nat) (x0 x1 x3:Int) (x2:Bool):Prop :=
 RX X rb F ⟨s.T,s.bad,s.lost||zBA F.L f||zBK F.L P⟩∧Blk X a0 opT zC∧Blk X a1 opT #[.int .i64 3,.int .i64 fi,.int .i64 0,.int .i64 0,.bool false,.int .i64 0,.slice B m d,.bool false] ∧
  Blk X a2 29 #[.int .i64 x0,.int .i64 x1,.bool x2,.int .i64 x3]∧w.grownBy X (some rb)∧Row X (a2+1) 5 B m d (Ps.flatMap zIk)∧m=Ps.length∧Ps=P.map (pOf F.L)∧fi=(zBb F.L f:Int) ∧
  m+r.length≤S.length∧r.length < N∧zAH S=zPx f (zGh N P r)
def Sc3 (w:World) (rb a0 a1:Nat) (F:Fm) (s:RS) (S:List UInt8) (X:World) (r:List UInt8) (n:Nop) (k f ff:Int) (far over:Bool) (path:List Sp) (B:Option Addr) (m d:Nat):Prop :=
 RX X rb F ⟨s.T,s.bad,s.lost||zAF F.L n⟩∧Blk X a0 opT zC∧Blk X a1 opT #[.int .i64 k,.int .i64 f,.int .i64 ff,.int .i64 0,.bool far,.int .i64 0,.slice B m d,.bool over]∧w.grownBy X (some rb) ∧
  Row X (a1+1) 5 B m d (path.flatMap zIk)∧m=path.length∧oOf F.L n=⟨k,f,⟨ff,0,far,0⟩,path,over⟩∧zAH S=zRq n r
def zCH (w:World) (rb a0 a1 a2:Nat) (F:Fm) (s:RS) (S:List UInt8) (l q:Nat) (X:World) (r:List UInt8):Prop :=
 (l=0∧q=1∧Sc0 w rb a0 F s S X)
 ∨ (l=1∧q=3∧∃n k f ff far,Sc1 w rb a0 a1 F s S X r n k f ff far)
 ∨ (l=2∧q=10+r.length∧∃f fi P Ps B m d N x0 x1 x3 x2,Sc2 w rb a0 a1 a2 F s S X r f fi P Ps B m d N x0 x1 x3 x2)
 ∨ (l=3∧q=2∧∃n k f ff far over path B m d,Sc3 w rb a0 a1 F s S X r n k f ff far over path B m d)
abbrev zKy (rb a0 a1 a2:Nat) (a:Act) (r:List UInt8):Prop :=
 a.tmps.size=136∧a.tmps.getD 0 undef=.pointer (some ⟨rb,0,none⟩)∧a.tmps.getD 1 undef=.string (bA r)∧a.tmps.getD 4 undef=.pointer (some ⟨a0,0,none⟩)∧a.tmps.getD 5 undef=.pointer (some ⟨a1,0,none⟩)∧a.tmps.getD 7 undef=.pointer (some ⟨a2,0,none⟩)∧a.defers=[]
theorem zFA (S:List UInt8):zGJ S=match zCL S with | some (b,r)=>(b,r,true) | none=>(false,S,false):=by
 cases S with
 | nil=>rfl
 | cons x r =>
  by_cases h1:x=111
  ·simp [zGJ,zCL,h1]
  ·by_cases h2:x=117
   ·simp [zGJ,zCL,h2]
   ·simp [zGJ,zCL,h1,h2]
theorem zRr (b:UInt8):Lib.indexByte [32,45,94,60,126,61,42,37,33] b=if b=32 then 0 else if zAI b=0 then -1 else zAI b:=by
 by_cases h0:b=32
 ·subst h0;decide
 rw [if_neg h0];by_cases h:zAI b=0
 ·rw [if_pos h];refine zOJ fun hm=>?_
  simp only [List.mem_cons,List.not_mem_nil,or_false] at hm;rcases hm with rfl | rfl | rfl | rfl | rfl | rfl | rfl | rfl | rfl
  ·exact h0 rfl
  all_goals exact absurd h (by decide)
 ·rw [if_neg h];have hb:=(zEa h).2.2;obtain ⟨h1,h8,_⟩:=zEa h;have hk:zAI b=1∨zAI b=2∨zAI b=3∨zAI b=4∨zAI b=5∨zAI b=6∨zAI b=7∨zAI b=8:=by omega
  rcases hk with e | e | e | e | e | e | e | e<;>rw [e] at hb ⊢<;>(have hbb:_=b:=List.head_eq_of_cons_eq hb;rw [←hbb];decide)
theorem zJE (b:UInt8) (w:World):Calls Tryz.prog 161 #[.string ⟨#[32,45,94,60,126,61,42,37,33]⟩,.int .u8 b.toNat] w fun e w'=>e=.returned (.int .i64 (if b=32 then 0 else if zAI b=0 then -1 else zAI b))∧w'=w:=by
 refine (Tryz.strings_IndexByte ⟨#[32,45,94,60,126,61,42,37,33]⟩ b.toNat w).mono ?_;rintro e w' ⟨rfl,rfl⟩;refine ⟨?_,rfl⟩;rw [←zRr]
 congr 3
 simp
theorem zLL (S:List UInt8):zAH S=match zFT S with
 | some (f,b :: r)=>if zAI b=0 then none
  else if zAI b=4 then zEc ⟨4,f,none,[],false⟩ (zCL r)
  else if zAI b=3 then zPx f (zGh (r.length+1) [] r)
  else if zAI b=5 then (match zBj r with | some (g,far,r2)=>zEc ⟨5,f,some ⟨g,0,far,0⟩,[],false⟩ (zCL r2) | none=>none)
  else if zAI b=6∨zAI b=7 then (match zFT r with | some (g,r2)=>zEc ⟨zAI b,f,some ⟨g,0,false,0⟩,[],false⟩ (zCL r2) | none=>none)
  else zRq ⟨zAI b,f,none,[],false⟩ r
 | _=>none:=by
 unfold zAH
 cases zFT S with
 | none=>rfl
 | some p =>
  obtain ⟨f,q⟩:=p
  cases q with
  | nil=>rfl
  | cons b r =>
   simp only;by_cases e0:zAI b=0
   ·rw [if_neg (by omega),if_neg (by omega),if_neg (by omega),if_neg (by omega),if_pos e0,if_pos e0]
   rw [if_neg e0,if_neg e0];by_cases e4:zAI b=4
   ·rw [if_pos e4,if_pos e4];unfold zRm zEc;split<;>simp_all
   rw [if_neg e4,if_neg e4];by_cases e3:zAI b=3
   ·rw [if_pos e3,if_pos e3];rfl
   rw [if_neg e3,if_neg e3];by_cases e5:zAI b=5
   ·rw [if_pos e5,if_pos e5];unfold zRn zEc;split
    ·rename_i g far r2 h;rw [h];split<;>simp_all
    ·rename_i h;rw [h]
   rw [if_neg e5,if_neg e5];by_cases e6:zAI b=6∨zAI b=7
   ·rw [if_pos e6,if_pos e6];unfold zRo zEc;split
    ·rename_i g r2 h;rw [h];split<;>simp_all
    ·rename_i h;rw [h]
   rw [if_neg e6,if_neg e6];rfl
def zGm:Code→Code
 | .scope c=>c
 | .seq _ y=>zGm y
 | c=>c
noncomputable def zKz:Code:=zGm (Tryz.f120.body.getD .skip)
abbrev zBf (w:World) (rb a1 a2:Nat) (F:Fm) (s:RS) (S:List UInt8) (l q:Nat) (a:Act) (wv:World):Prop :=
 ∃(X:World) (r:List UInt8),X=wv∧zKy rb w.heap.size a1 a2 a r∧Hid (zCH w rb w.heap.size a1 a2 F s S l q X r)
abbrev zRs (w:World) (rb:Nat) (F:Fm) (s:RS) (S:List UInt8):Exit→Act→World→Prop:=bodyPost Tryz.prog Tryz.f120 (zCn w rb F s S)
set_option maxHeartbeats 12800000 in
set_option maxRecDepth 100000 in
theorem zNK (rb:Nat) (F:Fm) (s:RS) (S:List UInt8) (w:World) (hlt0:rb < w.heap.size) (a1 a2:Nat) (ha1:a1=w.heap.size+1) (ha2:a2=w.heap.size+2) (r:List UInt8) (q:Nat) (hq:q=1) (a:Act) (X:World) (hF:zKy rb w.heap.size a1 a2 a r)  (hJ:Sc0 w rb w.heap.size F s S X) :
  ∃rest,findLabel zKz 0=some rest∧rest.wp Tryz.prog (zDY (fun l' a' w'=>∃n',n' < q∧zBf w rb a1 a2 F s S l' n' a' w') (zRs w rb F s S)) a X:=by
 have hlt:=hlt0
 have FS:=Lib.hid (fun (n:Nop) (o:Og) (hn:zAH S=some n) (ho:oOf F.L n=o) (wx:World) (B:Option Addr) (m d:Nat) (hr:Row wx w.heap.size 5 B m d (o.path.flatMap zIk)) (hm:m=o.path.length) (hx:RX wx rb F ⟨s.T,s.bad,s.lost||zAF F.L n⟩) (hg:w.grownBy wx (some rb)) =>
  (show zCn w rb F s S (.returned (opV o B m d)) wx from .inl ⟨n,hn,B,m,d,by rw [ho],by rw [ho];exact hr,by rw [ho];exact hm,hx,hg⟩))
 have FN:=Lib.hid (fun (hn:zAH S=none) (wx:World) (hx:∃l,RX wx rb F ⟨s.T,true,l⟩) (hg:w.grownBy wx (some rb))=>(show zCn w rb F s S (.returned (opV zop none 0 0)) wx from .inr ⟨hn,rfl,hx,hg⟩));have bop:=zKw;have HA1:=Lib.hid ha1;have HA2:=Lib.hid ha2;have lt_r:rb < w.heap.size:=hlt;have lt_o:rb < a1:=by omega
 have lt_x:rb < a2:=by omega
 have ge_r:w.heap.size≤w.heap.size:=Nat.le_refl _;have ge_o:w.heap.size≤a1:=by omega
 have ge_x:w.heap.size≤a2:=by omega
 have lt_r_o:w.heap.size < a1:=by omega
 have lt_r_x:w.heap.size < a2:=by omega
 have lt_o_x:a1 < a2:=by omega
 have HQ:=Lib.hid hq;clear ha1 ha2 hq hlt hlt0;obtain ⟨tm,df⟩:=a;obtain ⟨hs,t0,t1,t4,t5,t7,hd⟩:=hF;simp only at hs t0 t1 t4 t5 t7 hd;subst hd;obtain ⟨v,hv⟩:∃v:Nat→Value,tm=#[.pointer (some ⟨rb,0,none⟩),.string (bA r),v 2,v 3,.pointer (some ⟨w.heap.size,0,none⟩),.pointer (some ⟨a1,0,none⟩),v 6,.pointer (some ⟨a2,0,none⟩),v 8,v 9,v 10,v 11,v 12,v 13,v 14,v 15,v 16,v 17,v 18,v 19,v 20,v 21,v 22,v 23,v 24,v 25,v 26,v 27,v 28,v 29,v 30,v 31,v 32,v 33,v 34,v 35,v 36,v 37,v 38,v 39,v 40,v 41,v 42,v 43,v 44,v 45,v 46,v 47,v 48,v 49,v 50,v 51,v 52,v 53,v 54,v 55,v 56,v 57,v 58,v 59,v 60,v 61,v 62,v 63,v 64,v 65,v 66,v 67,v 68,v 69,v 70,v 71,v 72,v 73,v 74,v 75,v 76,v 77,v 78,v 79,v 80,v 81,v 82,v 83,v 84,v 85,v 86,v 87,v 88,v 89,v 90,v 91,v 92,v 93,v 94,v 95,v 96,v 97,v 98,v 99,v 100,v 101,v 102,v 103,v 104,v 105,v 106,v 107,v 108,v 109,v 110,v 111,v 112,v 113,v 114,v 115,v 116,v 117,v 118,v 119,v 120,v 121,v 122,v 123,v 124,v 125,v 126,v 127,v 128,v 129,v 130,v 131,v 132,v 133,v 134,v 135]:=⟨fun i=>tm.getD i undef,by rw [←t0,←t1,←t4,←t5,←t7];exact zFz 136 tm hs⟩
 subst hv;clear hs t0 t1 t4 t5 t7;simp only [zKz,Tryz.f120,Option.getD,zGm,findLabel];refine ⟨_,rfl,?_⟩;obtain ⟨⟨lo,h1⟩,kr,g1,hn⟩:=hJ;have HN:=Lib.hid hn;clear hn;have c4:X.cell? ⟨rb,4,none⟩=some (.bool s.bad):=h1.bad4.1;have z4:=h1.bad4.2;have hm:=h1.marked true true (by simp);have hrx9:∃l,RX (X.setCell ⟨rb,4,none⟩ (.bool true)) rb F ⟨s.T,true,l⟩:=⟨_,by have:=hm.1;unfold RS.mark at this;simpa using this⟩
 have k9:=kr.grownO hm.2 lt_r;have g9:=zAb g1 hm.2;clear hm h1 g1 kr;go_upto_region 39 with fail
 clear c4 z4;generalize X.setCell ⟨rb,4,none⟩ (.bool true)=X9 at hrx9 k9 g9 ⊢;have y0:X9.cell? ⟨w.heap.size,0,none⟩=some (.int .i64 0):=(k9.cell 0).trans rfl;have yz0:=k9.frozen 0;have y1:X9.cell? ⟨w.heap.size,1,none⟩=some (.int .i64 0):=(k9.cell 1).trans rfl;have yz1:=k9.frozen 1;have y2:X9.cell? ⟨w.heap.size,2,none⟩=some (.int .i64 0):=(k9.cell 2).trans rfl;have yz2:=k9.frozen 2;have y3:X9.cell? ⟨w.heap.size,3,none⟩=some (.int .i64 0):=(k9.cell 3).trans rfl;have yz3:=k9.frozen 3;have y4:X9.cell? ⟨w.heap.size,4,none⟩=some (.bool false):=(k9.cell 4).trans rfl;have yz4:=k9.frozen 4;have y5:X9.cell? ⟨w.heap.size,5,none⟩=some (.int .i64 0):=(k9.cell 5).trans rfl;have yz5:=k9.frozen 5;have y6:X9.cell? ⟨w.heap.size,6,none⟩=some (.slice none 0 0):=(k9.cell 6).trans rfl;have yz6:=k9.frozen 6;have y7:X9.cell? ⟨w.heap.size,7,none⟩=some (.bool false):=(k9.cell 7).trans rfl;have yz7:=k9.frozen 7;have SZ:=Lib.hid (k9.store8 (.int .i64 0) (.int .i64 0) (.int .i64 0) (.int .i64 0) (.bool false) (.int .i64 0) (.slice none 0 0) (.bool false));have BR:=Lib.hid (zAg (Below.refl (rb+1) X9) (show rb+1≤w.heap.size from lt_r) (.int .i64 0) (.int .i64 0) (.int .i64 0) (.int .i64 0) (.bool false) (.int .i64 0) (.slice none 0 0) (.bool false));have BW:=Lib.hid (zAg (Below.refl w.heap.size X9) ge_r (.int .i64 0) (.int .i64 0) (.int .i64 0) (.int .i64 0) (.bool false) (.int .i64 0) (.slice none 0 0) (.bool false));have HF:=Lib.hid (FN.out HN.out _ (by obtain ⟨l,hl⟩:=hrx9;exact ⟨l,hl.over BR.out⟩) (zAd g9 BW.out));clear hrx9 k9 g9 BR BW;go_wp2_with fail
 rw [zDi];exact zAG rfl rfl SZ.out Tryz.underlying32 rfl (by kernel_rfl) rfl HF.out
set_option maxHeartbeats 12800000 in
set_option maxRecDepth 100000 in
theorem zNL (rb:Nat) (F:Fm) (s:RS) (S:List UInt8) (w:World) (hlt0:rb < w.heap.size) (a1 a2:Nat) (ha1:a1=w.heap.size+1) (ha2:a2=w.heap.size+2) (r:List UInt8) (q:Nat) (hq:q=2) (a:Act) (X:World) (hF:zKy rb w.heap.size a1 a2 a r) (n:Nop) (k f ff:Int) (far over:Bool) (path:List Sp) (B:Option Addr) (m d:Nat) (hJ:Sc3 w rb w.heap.size a1 F s S X r n k f ff far over path B m d) :
  ∃rest,findLabel zKz 3=some rest∧rest.wp Tryz.prog (zDY (fun l' a' w'=>∃n',n' < q∧zBf w rb a1 a2 F s S l' n' a' w') (zRs w rb F s S)) a X:=by
 have hlt:=hlt0
 have FS:=Lib.hid (fun (n:Nop) (o:Og) (hn:zAH S=some n) (ho:oOf F.L n=o) (wx:World) (B:Option Addr) (m d:Nat) (hr:Row wx w.heap.size 5 B m d (o.path.flatMap zIk)) (hm:m=o.path.length) (hx:RX wx rb F ⟨s.T,s.bad,s.lost||zAF F.L n⟩) (hg:w.grownBy wx (some rb)) =>
  (show zCn w rb F s S (.returned (opV o B m d)) wx from .inl ⟨n,hn,B,m,d,by rw [ho],by rw [ho];exact hr,by rw [ho];exact hm,hx,hg⟩))
 have FN:=Lib.hid (fun (hn:zAH S=none) (wx:World) (hx:∃l,RX wx rb F ⟨s.T,true,l⟩) (hg:w.grownBy wx (some rb))=>(show zCn w rb F s S (.returned (opV zop none 0 0)) wx from .inr ⟨hn,rfl,hx,hg⟩));have bop:=zKw;have HA1:=Lib.hid ha1;have HA2:=Lib.hid ha2;have lt_r:rb < w.heap.size:=hlt;have lt_o:rb < a1:=by omega
 have lt_x:rb < a2:=by omega
 have ge_r:w.heap.size≤w.heap.size:=Nat.le_refl _;have ge_o:w.heap.size≤a1:=by omega
 have ge_x:w.heap.size≤a2:=by omega
 have lt_r_o:w.heap.size < a1:=by omega
 have lt_r_x:w.heap.size < a2:=by omega
 have lt_o_x:a1 < a2:=by omega
 have HQ:=Lib.hid hq;clear ha1 ha2 hq hlt hlt0;obtain ⟨tm,df⟩:=a;obtain ⟨hs,t0,t1,t4,t5,t7,hd⟩:=hF;simp only at hs t0 t1 t4 t5 t7 hd;subst hd;obtain ⟨v,hv⟩:∃v:Nat→Value,tm=#[.pointer (some ⟨rb,0,none⟩),.string (bA r),v 2,v 3,.pointer (some ⟨w.heap.size,0,none⟩),.pointer (some ⟨a1,0,none⟩),v 6,.pointer (some ⟨a2,0,none⟩),v 8,v 9,v 10,v 11,v 12,v 13,v 14,v 15,v 16,v 17,v 18,v 19,v 20,v 21,v 22,v 23,v 24,v 25,v 26,v 27,v 28,v 29,v 30,v 31,v 32,v 33,v 34,v 35,v 36,v 37,v 38,v 39,v 40,v 41,v 42,v 43,v 44,v 45,v 46,v 47,v 48,v 49,v 50,v 51,v 52,v 53,v 54,v 55,v 56,v 57,v 58,v 59,v 60,v 61,v 62,v 63,v 64,v 65,v 66,v 67,v 68,v 69,v 70,v 71,v 72,v 73,v 74,v 75,v 76,v 77,v 78,v 79,v 80,v 81,v 82,v 83,v 84,v 85,v 86,v 87,v 88,v 89,v 90,v 91,v 92,v 93,v 94,v 95,v 96,v 97,v 98,v 99,v 100,v 101,v 102,v 103,v 104,v 105,v 106,v 107,v 108,v 109,v 110,v 111,v 112,v 113,v 114,v 115,v 116,v 117,v 118,v 119,v 120,v 121,v 122,v 123,v 124,v 125,v 126,v 127,v 128,v 129,v 130,v 131,v 132,v 133,v 134,v 135]:=⟨fun i=>tm.getD i undef,by rw [←t0,←t1,←t4,←t5,←t7];exact zFz 136 tm hs⟩
 subst hv;clear hs t0 t1 t4 t5 t7;simp only [zKz,Tryz.f120,Option.getD,zGm,findLabel];refine ⟨_,rfl,?_⟩;obtain ⟨h1,kr,ko,g1,hrow,hm,ho,hn⟩:=hJ;have HO:=Lib.hid ho;have HM:=Lib.hid hm;have n0:=zAJ r [];clear ho hm
 cases r with
 | nil =>
  rw [show (([]:List UInt8)==[])=true from rfl] at n0;have HN:=Lib.hid (show zAH S=some n by rw [hn];rfl);have HROW:=Lib.hid hrow;clear hn hrow;obtain ⟨f0,f1,f2,f3,f4,f5,f6,f7⟩:=cQ8 ko;have y0:X.cell? ⟨w.heap.size,0,none⟩=some (.int .i64 0):=(kr.cell 0).trans rfl;have yz0:=kr.frozen 0;have y1:X.cell? ⟨w.heap.size,1,none⟩=some (.int .i64 0):=(kr.cell 1).trans rfl;have yz1:=kr.frozen 1;have y2:X.cell? ⟨w.heap.size,2,none⟩=some (.int .i64 0):=(kr.cell 2).trans rfl;have yz2:=kr.frozen 2;have y3:X.cell? ⟨w.heap.size,3,none⟩=some (.int .i64 0):=(kr.cell 3).trans rfl;have yz3:=kr.frozen 3;have y4:X.cell? ⟨w.heap.size,4,none⟩=some (.bool false):=(kr.cell 4).trans rfl;have yz4:=kr.frozen 4;have y5:X.cell? ⟨w.heap.size,5,none⟩=some (.int .i64 0):=(kr.cell 5).trans rfl;have yz5:=kr.frozen 5;have y6:X.cell? ⟨w.heap.size,6,none⟩=some (.slice none 0 0):=(kr.cell 6).trans rfl;have yz6:=kr.frozen 6;have y7:X.cell? ⟨w.heap.size,7,none⟩=some (.bool false):=(kr.cell 7).trans rfl;have yz7:=kr.frozen 7;have SZ:=Lib.hid (kr.store8 (.int .i64 k) (.int .i64 f) (.int .i64 ff) (.int .i64 0) (.bool far) (.int .i64 0) (.slice B m d) (.bool over));have BR:=Lib.hid (zAg (Below.refl (rb+1) X) (show rb+1≤w.heap.size from lt_r) (.int .i64 k) (.int .i64 f) (.int .i64 ff) (.int .i64 0) (.bool far) (.int .i64 0) (.slice B m d) (.bool over));have BW:=Lib.hid (zAg (Below.refl w.heap.size X) ge_r (.int .i64 k) (.int .i64 f) (.int .i64 ff) (.int .i64 0) (.bool far) (.int .i64 0) (.slice B m d) (.bool over));have HF:=Lib.hid (FS.out n ⟨k,f,⟨ff,0,far,0⟩,path,over⟩ HN.out HO.out _ B m d ((HROW.out.store8 (show w.heap.size < a1+1 by omega) (.int .i64 k) (.int .i64 f) (.int .i64 ff) (.int .i64 0) (.bool far) (.int .i64 0) (.slice B m d) (.bool over)).mono (by omega)) HM.out (h1.over BR.out) (zAd g1 BW.out));clear BR BW h1 g1 kr ko;go_wp2_with fail
  rw [zDi];exact zAG rfl rfl SZ.out Tryz.underlying32 rfl (by kernel_rfl) rfl HF.out
 | cons x r =>
  rw [show (x :: r==([]:List UInt8))=false from rfl] at n0;have HN:=Lib.hid (show zAH S=none by rw [hn];rfl);clear hn hrow;go_wp2_with fail
  go_step3
  have c4:X.cell? ⟨rb,4,none⟩=some (.bool s.bad):=h1.bad4.1;have z4:=h1.bad4.2;have hm:=h1.marked true true (by simp);have hrx9:∃l,RX (X.setCell ⟨rb,4,none⟩ (.bool true)) rb F ⟨s.T,true,l⟩:=⟨_,by have:=hm.1;unfold RS.mark at this;simpa using this⟩
  have k9:=kr.grownO hm.2 lt_r;have g9:=zAb g1 hm.2;clear hm h1 g1 kr ko;go_upto_region 39 with fail
  clear c4 z4;generalize X.setCell ⟨rb,4,none⟩ (.bool true)=X9 at hrx9 k9 g9 ⊢;have y0:X9.cell? ⟨w.heap.size,0,none⟩=some (.int .i64 0):=(k9.cell 0).trans rfl;have yz0:=k9.frozen 0;have y1:X9.cell? ⟨w.heap.size,1,none⟩=some (.int .i64 0):=(k9.cell 1).trans rfl;have yz1:=k9.frozen 1;have y2:X9.cell? ⟨w.heap.size,2,none⟩=some (.int .i64 0):=(k9.cell 2).trans rfl;have yz2:=k9.frozen 2;have y3:X9.cell? ⟨w.heap.size,3,none⟩=some (.int .i64 0):=(k9.cell 3).trans rfl;have yz3:=k9.frozen 3;have y4:X9.cell? ⟨w.heap.size,4,none⟩=some (.bool false):=(k9.cell 4).trans rfl;have yz4:=k9.frozen 4;have y5:X9.cell? ⟨w.heap.size,5,none⟩=some (.int .i64 0):=(k9.cell 5).trans rfl;have yz5:=k9.frozen 5;have y6:X9.cell? ⟨w.heap.size,6,none⟩=some (.slice none 0 0):=(k9.cell 6).trans rfl;have yz6:=k9.frozen 6;have y7:X9.cell? ⟨w.heap.size,7,none⟩=some (.bool false):=(k9.cell 7).trans rfl;have yz7:=k9.frozen 7;have SZ:=Lib.hid (k9.store8 (.int .i64 0) (.int .i64 0) (.int .i64 0) (.int .i64 0) (.bool false) (.int .i64 0) (.slice none 0 0) (.bool false));have BR:=Lib.hid (zAg (Below.refl (rb+1) X9) (show rb+1≤w.heap.size from lt_r) (.int .i64 0) (.int .i64 0) (.int .i64 0) (.int .i64 0) (.bool false) (.int .i64 0) (.slice none 0 0) (.bool false));have BW:=Lib.hid (zAg (Below.refl w.heap.size X9) ge_r (.int .i64 0) (.int .i64 0) (.int .i64 0) (.int .i64 0) (.bool false) (.int .i64 0) (.slice none 0 0) (.bool false));have HF:=Lib.hid (FN.out HN.out _ (by obtain ⟨l,hl⟩:=hrx9;exact ⟨l,hl.over BR.out⟩) (zAd g9 BW.out));clear hrx9 k9 g9 BR BW;go_wp2_with fail
  rw [zDi];exact zAG rfl rfl SZ.out Tryz.underlying32 rfl (by kernel_rfl) rfl HF.out
set_option maxHeartbeats 12800000 in
set_option maxRecDepth 100000 in
theorem zNM (rb:Nat) (F:Fm) (s:RS) (S:List UInt8) (w:World) (hlt0:rb < w.heap.size) (a1 a2:Nat) (ha1:a1=w.heap.size+1) (ha2:a2=w.heap.size+2) (r:List UInt8) (q:Nat) (hq:q=3) (a:Act) (X:World) (hF:zKy rb w.heap.size a1 a2 a r) (n:Nop) (k f ff:Int) (far:Bool) (hJ:Sc1 w rb w.heap.size a1 F s S X r n k f ff far) :
  ∃rest,findLabel zKz 1=some rest∧rest.wp Tryz.prog (zDY (fun l' a' w'=>∃n',n' < q∧zBf w rb a1 a2 F s S l' n' a' w') (zRs w rb F s S)) a X:=by
 have hlt:=hlt0
 have FS:=Lib.hid (fun (n:Nop) (o:Og) (hn:zAH S=some n) (ho:oOf F.L n=o) (wx:World) (B:Option Addr) (m d:Nat) (hr:Row wx w.heap.size 5 B m d (o.path.flatMap zIk)) (hm:m=o.path.length) (hx:RX wx rb F ⟨s.T,s.bad,s.lost||zAF F.L n⟩) (hg:w.grownBy wx (some rb)) =>
  (show zCn w rb F s S (.returned (opV o B m d)) wx from .inl ⟨n,hn,B,m,d,by rw [ho],by rw [ho];exact hr,by rw [ho];exact hm,hx,hg⟩))
 have FN:=Lib.hid (fun (hn:zAH S=none) (wx:World) (hx:∃l,RX wx rb F ⟨s.T,true,l⟩) (hg:w.grownBy wx (some rb))=>(show zCn w rb F s S (.returned (opV zop none 0 0)) wx from .inr ⟨hn,rfl,hx,hg⟩));have lt_r:rb < w.heap.size:=hlt;have lt_o:rb < a1:=by omega
 have ge_r:w.heap.size≤w.heap.size:=Nat.le_refl _;have ge_o:w.heap.size≤a1:=by omega
 have lt_r_o:w.heap.size < a1:=by omega
 have HQ:=Lib.hid hq;clear ha1 ha2 hq hlt hlt0;obtain ⟨tm,df⟩:=a;obtain ⟨hs,t0,t1,t4,t5,t7,hd⟩:=hF;simp only at hs t0 t1 t4 t5 t7 hd;subst hd;obtain ⟨v,hv⟩:∃v:Nat→Value,tm=#[.pointer (some ⟨rb,0,none⟩),.string (bA r),v 2,v 3,.pointer (some ⟨w.heap.size,0,none⟩),.pointer (some ⟨a1,0,none⟩),v 6,.pointer (some ⟨a2,0,none⟩),v 8,v 9,v 10,v 11,v 12,v 13,v 14,v 15,v 16,v 17,v 18,v 19,v 20,v 21,v 22,v 23,v 24,v 25,v 26,v 27,v 28,v 29,v 30,v 31,v 32,v 33,v 34,v 35,v 36,v 37,v 38,v 39,v 40,v 41,v 42,v 43,v 44,v 45,v 46,v 47,v 48,v 49,v 50,v 51,v 52,v 53,v 54,v 55,v 56,v 57,v 58,v 59,v 60,v 61,v 62,v 63,v 64,v 65,v 66,v 67,v 68,v 69,v 70,v 71,v 72,v 73,v 74,v 75,v 76,v 77,v 78,v 79,v 80,v 81,v 82,v 83,v 84,v 85,v 86,v 87,v 88,v 89,v 90,v 91,v 92,v 93,v 94,v 95,v 96,v 97,v 98,v 99,v 100,v 101,v 102,v 103,v 104,v 105,v 106,v 107,v 108,v 109,v 110,v 111,v 112,v 113,v 114,v 115,v 116,v 117,v 118,v 119,v 120,v 121,v 122,v 123,v 124,v 125,v 126,v 127,v 128,v 129,v 130,v 131,v 132,v 133,v 134,v 135]:=⟨fun i=>tm.getD i undef,by rw [←t0,←t1,←t4,←t5,←t7];exact zFz 136 tm hs⟩
 subst hv;clear hs t0 t1 t4 t5 t7;simp only [zKz,Tryz.f120,Option.getD,zGm,findLabel];refine ⟨_,rfl,?_⟩;obtain ⟨h1,kr,ko,g1,hn,hp,ho⟩:=hJ;have HO:=Lib.hid ho;have HFL:=Lib.hid (fun wx=>zEm r wx);rw [zFA] at HFL;clear ho hp
 cases hfl:zCL r with
 | none =>
  rw [hfl] at HFL;have HN:=Lib.hid (show zAH S=none by rw [hn,hfl];rfl);clear hn hfl;go_wp2_with fail
  refine (HFL.out X).mono ?_;rintro e X21 ⟨rfl,q21⟩;have k21_r:=kr.below q21 kr.lt;have k21_o:=ko.below q21 ko.lt;have h21:=h1.below q21;have g21:=zAb g1 (zAw (row:=some rb) q21);clear h1 g1 kr ko q21 HFL;have z22:=k21_o.frozen 7;have d22:X21.cell? ⟨a1,7,none⟩=some (.bool false):=(k21_o.cell 7).trans rfl;have q22:Below (rb+1) X21 (X21.setCell ⟨a1,7,none⟩ (.bool false)):=(Below.refl _ _).setCell (p:=⟨a1,7,none⟩) lt_o _;have p22:Below w.heap.size X21 (X21.setCell ⟨a1,7,none⟩ (.bool false)):=(Below.refl _ _).setCell (p:=⟨a1,7,none⟩) ge_o _;have k22_r:=k21_r.far (p:=⟨a1,7,none⟩) (by simp only;omega) (.bool false);have h22:=h21.over q22;have g22:=zAd g21 p22;clear h21 g21 k21_r k21_o q22 p22;have HG:=Lib.hid (show zCH w rb w.heap.size a1 a2 F s S 0 (1) (X21.setCell ⟨a1,7,none⟩ (.bool false)) (r) from .inl ⟨rfl,rfl,⟨⟨_,h22⟩,k22_r,g22,HN.out⟩⟩);clear h22 g22 k22_r;go_wp2_with fail
  go_step3
  refine (show ∃n',n' < q∧zBf w rb a1 a2 F s S 0 n' _ _ from ?_);exact ⟨_,by have:=HQ.out;omega,_,r,rfl,⟨rfl,rfl,rfl,rfl,rfl,rfl,rfl⟩,HG⟩
 | some p =>
  obtain ⟨b,r2⟩:=p;rw [hfl] at HFL hn;have n0:=zAJ r2 [];clear hfl
  cases r2 with
  | nil =>
   rw [show (([]:List UInt8)==[])=true from rfl] at n0;have HN:=Lib.hid (show zAH S=some ⟨n.kind,n.f,n.fr,n.path,b⟩ by rw [hn];rfl);clear hn;go_wp2_with fail
   refine (HFL.out X).mono ?_;rintro e X23 ⟨rfl,q23⟩;have k23_r:=kr.below q23 kr.lt;have k23_o:=ko.below q23 ko.lt;have h23:=h1.below q23;have g23:=zAb g1 (zAw (row:=some rb) q23);clear h1 g1 kr ko q23 HFL;have z24:=k23_o.frozen 7;have d24:X23.cell? ⟨a1,7,none⟩=some (.bool false):=(k23_o.cell 7).trans rfl;have k24_o:Blk (X23.setCell ⟨a1,7,none⟩ (.bool b)) a1 32 #[.int .i64 k,.int .i64 f,.int .i64 ff,.int .i64 0,.bool far,.int .i64 0,.slice none 0 0,.bool b]:=k23_o.set_ 7 _;have q24:Below (rb+1) X23 (X23.setCell ⟨a1,7,none⟩ (.bool b)):=(Below.refl _ _).setCell (p:=⟨a1,7,none⟩) lt_o _;have p24:Below w.heap.size X23 (X23.setCell ⟨a1,7,none⟩ (.bool b)):=(Below.refl _ _).setCell (p:=⟨a1,7,none⟩) ge_o _;have k24_r:=k23_r.far (p:=⟨a1,7,none⟩) (by simp only;omega) (.bool b);have h24:=h23.over q24;have g24:=zAd g23 p24;clear h23 g23 k23_r k23_o q24 p24;go_wp2_with fail
   go_step3
   clear z24 d24;generalize X23.setCell ⟨a1,7,none⟩ (.bool b)=X25 at h24 g24 k24_r k24_o ⊢;obtain ⟨f0,f1,f2,f3,f4,f5,f6,f7⟩:=cQ8 k24_o;have y0:X25.cell? ⟨w.heap.size,0,none⟩=some (.int .i64 0):=(k24_r.cell 0).trans rfl;have yz0:=k24_r.frozen 0;have y1:X25.cell? ⟨w.heap.size,1,none⟩=some (.int .i64 0):=(k24_r.cell 1).trans rfl;have yz1:=k24_r.frozen 1;have y2:X25.cell? ⟨w.heap.size,2,none⟩=some (.int .i64 0):=(k24_r.cell 2).trans rfl;have yz2:=k24_r.frozen 2;have y3:X25.cell? ⟨w.heap.size,3,none⟩=some (.int .i64 0):=(k24_r.cell 3).trans rfl;have yz3:=k24_r.frozen 3;have y4:X25.cell? ⟨w.heap.size,4,none⟩=some (.bool false):=(k24_r.cell 4).trans rfl;have yz4:=k24_r.frozen 4;have y5:X25.cell? ⟨w.heap.size,5,none⟩=some (.int .i64 0):=(k24_r.cell 5).trans rfl;have yz5:=k24_r.frozen 5;have y6:X25.cell? ⟨w.heap.size,6,none⟩=some (.slice none 0 0):=(k24_r.cell 6).trans rfl;have yz6:=k24_r.frozen 6;have y7:X25.cell? ⟨w.heap.size,7,none⟩=some (.bool false):=(k24_r.cell 7).trans rfl;have yz7:=k24_r.frozen 7;have SZ:=Lib.hid (k24_r.store8 (.int .i64 k) (.int .i64 f) (.int .i64 ff) (.int .i64 0) (.bool far) (.int .i64 0) (.slice none 0 0) (.bool b));have BR:=Lib.hid (zAg (Below.refl (rb+1) X25) (show rb+1≤w.heap.size from lt_r) (.int .i64 k) (.int .i64 f) (.int .i64 ff) (.int .i64 0) (.bool far) (.int .i64 0) (.slice none 0 0) (.bool b));have BW:=Lib.hid (zAg (Below.refl w.heap.size X25) ge_r (.int .i64 k) (.int .i64 f) (.int .i64 ff) (.int .i64 0) (.bool far) (.int .i64 0) (.slice none 0 0) (.bool b));have HF:=Lib.hid (FS.out ⟨n.kind,n.f,n.fr,n.path,b⟩ ⟨k,f,⟨ff,0,far,0⟩,[],b⟩ HN.out (HO.out b) _ none 0 0 (Row.none_ _ _ _) rfl (h24.over BR.out) (zAd g24 BW.out));clear BR BW h24 g24 k24_r k24_o;go_wp2_with fail
   rw [zDi];exact zAG rfl rfl SZ.out Tryz.underlying32 rfl (by kernel_rfl) rfl HF.out
  | cons x r2 =>
   rw [show (x :: r2==([]:List UInt8))=false from rfl] at n0;have HN:=Lib.hid (show zAH S=none by rw [hn];rfl);clear hn;go_wp2_with fail
   refine (HFL.out X).mono ?_;rintro e X26 ⟨rfl,q26⟩;have k26_r:=kr.below q26 kr.lt;have k26_o:=ko.below q26 ko.lt;have h26:=h1.below q26;have g26:=zAb g1 (zAw (row:=some rb) q26);clear h1 g1 kr ko q26 HFL;have z27:=k26_o.frozen 7;have d27:X26.cell? ⟨a1,7,none⟩=some (.bool false):=(k26_o.cell 7).trans rfl;have q27:Below (rb+1) X26 (X26.setCell ⟨a1,7,none⟩ (.bool b)):=(Below.refl _ _).setCell (p:=⟨a1,7,none⟩) lt_o _;have p27:Below w.heap.size X26 (X26.setCell ⟨a1,7,none⟩ (.bool b)):=(Below.refl _ _).setCell (p:=⟨a1,7,none⟩) ge_o _;have k27_r:=k26_r.far (p:=⟨a1,7,none⟩) (by simp only;omega) (.bool b);have h27:=h26.over q27;have g27:=zAd g26 p27;clear h26 g26 k26_r k26_o q27 p27;go_wp2_with fail
   go_step3
   clear z27 d27;generalize X26.setCell ⟨a1,7,none⟩ (.bool b)=X28 at h27 g27 k27_r ⊢;go_wp2_with fail
   go_step3
   have c4:X28.cell? ⟨rb,4,none⟩=some (.bool s.bad):=h27.bad4.1;have z4:=h27.bad4.2;have hm:=h27.marked true true (by simp);have hrx9:∃l,RX (X28.setCell ⟨rb,4,none⟩ (.bool true)) rb F ⟨s.T,true,l⟩:=⟨_,by have:=hm.1;unfold RS.mark at this;simpa using this⟩
   have k9:=k27_r.grownO hm.2 lt_r;have g9:=zAb g27 hm.2;clear hm h27 g27 k27_r;go_upto_region 39 with fail
   clear c4 z4;generalize X28.setCell ⟨rb,4,none⟩ (.bool true)=X9 at hrx9 k9 g9 ⊢;have y0:X9.cell? ⟨w.heap.size,0,none⟩=some (.int .i64 0):=(k9.cell 0).trans rfl;have yz0:=k9.frozen 0;have y1:X9.cell? ⟨w.heap.size,1,none⟩=some (.int .i64 0):=(k9.cell 1).trans rfl;have yz1:=k9.frozen 1;have y2:X9.cell? ⟨w.heap.size,2,none⟩=some (.int .i64 0):=(k9.cell 2).trans rfl;have yz2:=k9.frozen 2;have y3:X9.cell? ⟨w.heap.size,3,none⟩=some (.int .i64 0):=(k9.cell 3).trans rfl;have yz3:=k9.frozen 3;have y4:X9.cell? ⟨w.heap.size,4,none⟩=some (.bool false):=(k9.cell 4).trans rfl;have yz4:=k9.frozen 4;have y5:X9.cell? ⟨w.heap.size,5,none⟩=some (.int .i64 0):=(k9.cell 5).trans rfl;have yz5:=k9.frozen 5;have y6:X9.cell? ⟨w.heap.size,6,none⟩=some (.slice none 0 0):=(k9.cell 6).trans rfl;have yz6:=k9.frozen 6;have y7:X9.cell? ⟨w.heap.size,7,none⟩=some (.bool false):=(k9.cell 7).trans rfl;have yz7:=k9.frozen 7;have SZ:=Lib.hid (k9.store8 (.int .i64 0) (.int .i64 0) (.int .i64 0) (.int .i64 0) (.bool false) (.int .i64 0) (.slice none 0 0) (.bool false));have BR:=Lib.hid (zAg (Below.refl (rb+1) X9) (show rb+1≤w.heap.size from lt_r) (.int .i64 0) (.int .i64 0) (.int .i64 0) (.int .i64 0) (.bool false) (.int .i64 0) (.slice none 0 0) (.bool false));have BW:=Lib.hid (zAg (Below.refl w.heap.size X9) ge_r (.int .i64 0) (.int .i64 0) (.int .i64 0) (.int .i64 0) (.bool false) (.int .i64 0) (.slice none 0 0) (.bool false));have HF:=Lib.hid (FN.out HN.out _ (by obtain ⟨l,hl⟩:=hrx9;exact ⟨l,hl.over BR.out⟩) (zAd g9 BW.out));clear hrx9 k9 g9 BR BW;go_wp2_with fail
   rw [zDi];exact zAG rfl rfl SZ.out Tryz.underlying32 rfl (by kernel_rfl) rfl HF.out
end Go.Proofs.YtlmdfmnbcndhoaaGreatDoor
