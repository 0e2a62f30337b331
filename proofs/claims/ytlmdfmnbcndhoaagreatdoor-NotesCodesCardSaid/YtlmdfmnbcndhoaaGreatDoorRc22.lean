/-
  Lemmas, part 22. Conditions: each theorem's own.
-/
import Derived.Test.YtlmdfmnbcndhoaaGreatDoorRc21
open Option renaming none→U,some→Z
open Bool renaming false→E,true→Q
open Go.Value renaming bool→G,int→D,slice→H,string→W
open Go.IntKind renaming i64→J
namespace Go.Proofs.YtlmdfmnbcndhoaaGreatDoor
open Go.RowKit
def zGe:Code→Code
 | .scope c=>c
 | .seq _ y=>zGe y
 | c=>c
noncomputable def zKG:Code:=zGe (Tryz.f120.body.getD .skip)
abbrev zBg (w:World) (rb a1 a2:Nat) (F:Fm) (s:RS) (S:List UInt8) (l q:Nat) (a:Act) (wv:World):Prop :=
 ∃(X:World) (r:List UInt8),X=wv∧zKF rb w.heap.size a1 a2 a r∧Hid (zCI w rb w.heap.size a1 a2 F s S l q X r)
abbrev zSc (w:World) (rb:Nat) (F:Fm) (s:RS) (S:List UInt8):Exit→Act→World→Prop:=bodyPost Tryz.prog Tryz.f120 (zCn w rb F s S)
set_option maxHeartbeats 12800000 in
set_option maxRecDepth 100000 in
theorem zNO (rb:Nat) (F:Fm) (s:RS) (S:List UInt8) (w:World) (hlt0:rb < w.heap.size) (a1 a2:Nat) (cd:a1=w.heap.size+1) (ft:a2=w.heap.size+2) (r:List UInt8) (q:Nat) (hq:q=1) (a:Act) (X:World) (hF:zKF rb w.heap.size a1 a2 a r)  (hJ:Sc0 w rb w.heap.size F s S X) :
  ∃rest,findLabel zKG 0=Z rest∧rest.wp Tryz.prog (zDZ (fun l' a' w'=>∃n',n' < q∧zBg w rb a1 a2 F s S l' n' a' w') (zSc w rb F s S)) a X:=by
 have hlt:=hlt0
 have FS:=qH (fun (n:Nop) (o:Og) (hn:zAJ S=Z n) (ho:oOf F.L n=o) (wx:World) (B:Option Addr) (m d:Nat) (hr:Row wx w.heap.size 5 B m d (o.path.flatMap zIg)) (hm:m=o.path.length) (hx:RX wx rb F ⟨s.T,s.bad,s.lost||zAE F.L n⟩) (hg:w.grownBy wx (Z rb)) =>
  (show zCn w rb F s S (.returned (opV o B m d)) wx from .inl ⟨n,hn,B,m,d,by rw [ho],by rw [ho];exact hr,by rw [ho];exact hm,hx,hg⟩))
 have FN:=qH (fun (hn:zAJ S=U) (wx:World) (hx:∃l,RX wx rb F ⟨s.T,Q,l⟩) (hg:w.grownBy wx (Z rb))=>(show zCn w rb F s S (.returned (opV zop U 0 0)) wx from .inr ⟨hn,rfl,hx,hg⟩));have bop:=zKD;have iO:=qH cd;have vj:=qH ft;have bs:rb < w.heap.size:=hlt;have aq:rb < a1:=by omega
 have cE:rb < a2:=by omega
 have bh:w.heap.size≤w.heap.size:=Nat.le_refl _;have aM:w.heap.size≤a1:=by omega
 have fG:w.heap.size≤a2:=by omega
 have fV:w.heap.size < a1:=by omega
 have m8:w.heap.size < a2:=by omega
 have jj:a1 < a2:=by omega
 have HQ:=qH hq;clear cd ft hq hlt hlt0;obtain ⟨tm,df⟩:=a;obtain ⟨hs,t0,t1,t4,t5,t7,hd⟩:=hF;simp only at hs t0 t1 t4 t5 t7 hd;subst hd;obtain ⟨v,hv⟩:∃v:Nat→Value,tm=#[.pointer (Z ⟨rb,0,U⟩),W (bA r),v 2,v 3,.pointer (Z ⟨w.heap.size,0,U⟩),.pointer (Z ⟨a1,0,U⟩),v 6,.pointer (Z ⟨a2,0,U⟩),v 8,v 9,v 10,v 11,v 12,v 13,v 14,v 15,v 16,v 17,v 18,v 19,v 20,v 21,v 22,v 23,v 24,v 25,v 26,v 27,v 28,v 29,v 30,v 31,v 32,v 33,v 34,v 35,v 36,v 37,v 38,v 39,v 40,v 41,v 42,v 43,v 44,v 45,v 46,v 47,v 48,v 49,v 50,v 51,v 52,v 53,v 54,v 55,v 56,v 57,v 58,v 59,v 60,v 61,v 62,v 63,v 64,v 65,v 66,v 67,v 68,v 69,v 70,v 71,v 72,v 73,v 74,v 75,v 76,v 77,v 78,v 79,v 80,v 81,v 82,v 83,v 84,v 85,v 86,v 87,v 88,v 89,v 90,v 91,v 92,v 93,v 94,v 95,v 96,v 97,v 98,v 99,v 100,v 101,v 102,v 103,v 104,v 105,v 106,v 107,v 108,v 109,v 110,v 111,v 112,v 113,v 114,v 115,v 116,v 117,v 118,v 119,v 120,v 121,v 122,v 123,v 124,v 125,v 126,v 127,v 128,v 129,v 130,v 131,v 132,v 133,v 134,v 135]:=⟨fun i=>tm.getD i undef,by rw [←t0,←t1,←t4,←t5,←t7];exact zFv 136 tm hs⟩
 subst hv;clear hs t0 t1 t4 t5 t7;simp only [zKG,Tryz.f120,Option.getD,zGe,findLabel];refine ⟨_,rfl,?_⟩;obtain ⟨⟨lo,h1⟩,kr,g1,hn⟩:=hJ;have HN:=qH hn;clear hn;have c4:X.cell? ⟨rb,4,U⟩=Z (G s.bad):=h1.bad4.1;have z4:=h1.bad4.2;have hm:=h1.marked Q Q (by simp);have eT:∃l,RX (X.setCell ⟨rb,4,U⟩ (G Q)) rb F ⟨s.T,Q,l⟩:=⟨_,by have:=hm.1;unfold RS.mark at this;simpa using this⟩
 have k9:=kr.grownO hm.2 bs;have g9:=zAb g1 hm.2;clear hm h1 g1 kr;go_upto_region 39 with fail
 clear c4 z4;generalize X.setCell ⟨rb,4,U⟩ (G Q)=X9 at eT k9 g9 ⊢;have y0:X9.cell? ⟨w.heap.size,0,U⟩=Z (D J 0):=(k9.cell 0).trans rfl;have iU:=k9.frozen 0;have y1:X9.cell? ⟨w.heap.size,1,U⟩=Z (D J 0):=(k9.cell 1).trans rfl;have iT:=k9.frozen 1;have y2:X9.cell? ⟨w.heap.size,2,U⟩=Z (D J 0):=(k9.cell 2).trans rfl;have j9:=k9.frozen 2;have y3:X9.cell? ⟨w.heap.size,3,U⟩=Z (D J 0):=(k9.cell 3).trans rfl;have j8:=k9.frozen 3;have y4:X9.cell? ⟨w.heap.size,4,U⟩=Z (G E):=(k9.cell 4).trans rfl;have j7:=k9.frozen 4;have y5:X9.cell? ⟨w.heap.size,5,U⟩=Z (D J 0):=(k9.cell 5).trans rfl;have j6:=k9.frozen 5;have y6:X9.cell? ⟨w.heap.size,6,U⟩=Z (H U 0 0):=(k9.cell 6).trans rfl;have j5:=k9.frozen 6;have y7:X9.cell? ⟨w.heap.size,7,U⟩=Z (G E):=(k9.cell 7).trans rfl;have jZ:=k9.frozen 7;have SZ:=qH (k9.store8 (D J 0) (D J 0) (D J 0) (D J 0) (G E) (D J 0) (H U 0 0) (G E));have BR:=qH (zAh (Below.refl (rb+1) X9) (show rb+1≤w.heap.size from bs) (D J 0) (D J 0) (D J 0) (D J 0) (G E) (D J 0) (H U 0 0) (G E));have BW:=qH (zAh (Below.refl w.heap.size X9) bh (D J 0) (D J 0) (D J 0) (D J 0) (G E) (D J 0) (H U 0 0) (G E));have HF:=qH (FN.out HN.out _ (by obtain ⟨l,hl⟩:=eT;exact ⟨l,hl.over BR.out⟩) (zAc g9 BW.out));clear eT k9 g9 BR BW;go_wp2_with fail
 rw [zDh];exact zAn rfl rfl SZ.out Tryz.underlying32 rfl (by kernel_rfl) rfl HF.out
set_option maxHeartbeats 12800000 in
set_option maxRecDepth 100000 in
theorem zNP (rb:Nat) (F:Fm) (s:RS) (S:List UInt8) (w:World) (hlt0:rb < w.heap.size) (a1 a2:Nat) (cd:a1=w.heap.size+1) (ft:a2=w.heap.size+2) (r:List UInt8) (q:Nat) (hq:q=2) (a:Act) (X:World) (hF:zKF rb w.heap.size a1 a2 a r) (n:Nop) (k f ff:Int) (far over:Bool) (path:List Sp) (B:Option Addr) (m d:Nat) (hJ:Sc3 w rb w.heap.size a1 F s S X r n k f ff far over path B m d) :
  ∃rest,findLabel zKG 3=Z rest∧rest.wp Tryz.prog (zDZ (fun l' a' w'=>∃n',n' < q∧zBg w rb a1 a2 F s S l' n' a' w') (zSc w rb F s S)) a X:=by
 have hlt:=hlt0
 have FS:=qH (fun (n:Nop) (o:Og) (hn:zAJ S=Z n) (ho:oOf F.L n=o) (wx:World) (B:Option Addr) (m d:Nat) (hr:Row wx w.heap.size 5 B m d (o.path.flatMap zIg)) (hm:m=o.path.length) (hx:RX wx rb F ⟨s.T,s.bad,s.lost||zAE F.L n⟩) (hg:w.grownBy wx (Z rb)) =>
  (show zCn w rb F s S (.returned (opV o B m d)) wx from .inl ⟨n,hn,B,m,d,by rw [ho],by rw [ho];exact hr,by rw [ho];exact hm,hx,hg⟩))
 have FN:=qH (fun (hn:zAJ S=U) (wx:World) (hx:∃l,RX wx rb F ⟨s.T,Q,l⟩) (hg:w.grownBy wx (Z rb))=>(show zCn w rb F s S (.returned (opV zop U 0 0)) wx from .inr ⟨hn,rfl,hx,hg⟩));have bop:=zKD;have iO:=qH cd;have vj:=qH ft;have bs:rb < w.heap.size:=hlt;have aq:rb < a1:=by omega
 have cE:rb < a2:=by omega
 have bh:w.heap.size≤w.heap.size:=Nat.le_refl _;have aM:w.heap.size≤a1:=by omega
 have fG:w.heap.size≤a2:=by omega
 have fV:w.heap.size < a1:=by omega
 have m8:w.heap.size < a2:=by omega
 have jj:a1 < a2:=by omega
 have HQ:=qH hq;clear cd ft hq hlt hlt0;obtain ⟨tm,df⟩:=a;obtain ⟨hs,t0,t1,t4,t5,t7,hd⟩:=hF;simp only at hs t0 t1 t4 t5 t7 hd;subst hd;obtain ⟨v,hv⟩:∃v:Nat→Value,tm=#[.pointer (Z ⟨rb,0,U⟩),W (bA r),v 2,v 3,.pointer (Z ⟨w.heap.size,0,U⟩),.pointer (Z ⟨a1,0,U⟩),v 6,.pointer (Z ⟨a2,0,U⟩),v 8,v 9,v 10,v 11,v 12,v 13,v 14,v 15,v 16,v 17,v 18,v 19,v 20,v 21,v 22,v 23,v 24,v 25,v 26,v 27,v 28,v 29,v 30,v 31,v 32,v 33,v 34,v 35,v 36,v 37,v 38,v 39,v 40,v 41,v 42,v 43,v 44,v 45,v 46,v 47,v 48,v 49,v 50,v 51,v 52,v 53,v 54,v 55,v 56,v 57,v 58,v 59,v 60,v 61,v 62,v 63,v 64,v 65,v 66,v 67,v 68,v 69,v 70,v 71,v 72,v 73,v 74,v 75,v 76,v 77,v 78,v 79,v 80,v 81,v 82,v 83,v 84,v 85,v 86,v 87,v 88,v 89,v 90,v 91,v 92,v 93,v 94,v 95,v 96,v 97,v 98,v 99,v 100,v 101,v 102,v 103,v 104,v 105,v 106,v 107,v 108,v 109,v 110,v 111,v 112,v 113,v 114,v 115,v 116,v 117,v 118,v 119,v 120,v 121,v 122,v 123,v 124,v 125,v 126,v 127,v 128,v 129,v 130,v 131,v 132,v 133,v 134,v 135]:=⟨fun i=>tm.getD i undef,by rw [←t0,←t1,←t4,←t5,←t7];exact zFv 136 tm hs⟩
 subst hv;clear hs t0 t1 t4 t5 t7;simp only [zKG,Tryz.f120,Option.getD,zGe,findLabel];refine ⟨_,rfl,?_⟩;obtain ⟨h1,kr,ko,g1,hrow,hm,ho,hn⟩:=hJ;have HO:=qH ho;have HM:=qH hm;have n0:=zAH r [];clear ho hm
 cases r with
 | nil =>
  rw [show (([]:List UInt8)==[])=Q from rfl] at n0;have HN:=qH (show zAJ S=Z n by rw [hn];rfl);have C8:=qH hrow;clear hn hrow;obtain ⟨f0,f1,f2,f3,f4,f5,f6,f7⟩:=cQ8 ko;have y0:X.cell? ⟨w.heap.size,0,U⟩=Z (D J 0):=(kr.cell 0).trans rfl;have iU:=kr.frozen 0;have y1:X.cell? ⟨w.heap.size,1,U⟩=Z (D J 0):=(kr.cell 1).trans rfl;have iT:=kr.frozen 1;have y2:X.cell? ⟨w.heap.size,2,U⟩=Z (D J 0):=(kr.cell 2).trans rfl;have j9:=kr.frozen 2;have y3:X.cell? ⟨w.heap.size,3,U⟩=Z (D J 0):=(kr.cell 3).trans rfl;have j8:=kr.frozen 3;have y4:X.cell? ⟨w.heap.size,4,U⟩=Z (G E):=(kr.cell 4).trans rfl;have j7:=kr.frozen 4;have y5:X.cell? ⟨w.heap.size,5,U⟩=Z (D J 0):=(kr.cell 5).trans rfl;have j6:=kr.frozen 5;have y6:X.cell? ⟨w.heap.size,6,U⟩=Z (H U 0 0):=(kr.cell 6).trans rfl;have j5:=kr.frozen 6;have y7:X.cell? ⟨w.heap.size,7,U⟩=Z (G E):=(kr.cell 7).trans rfl;have jZ:=kr.frozen 7;have SZ:=qH (kr.store8 (D J k) (D J f) (D J ff) (D J 0) (G far) (D J 0) (H B m d) (G over));have BR:=qH (zAh (Below.refl (rb+1) X) (show rb+1≤w.heap.size from bs) (D J k) (D J f) (D J ff) (D J 0) (G far) (D J 0) (H B m d) (G over));have BW:=qH (zAh (Below.refl w.heap.size X) bh (D J k) (D J f) (D J ff) (D J 0) (G far) (D J 0) (H B m d) (G over));have HF:=qH (FS.out n ⟨k,f,⟨ff,0,far,0⟩,path,over⟩ HN.out HO.out _ B m d ((C8.out.store8 (show w.heap.size < a1+1 by omega) (D J k) (D J f) (D J ff) (D J 0) (G far) (D J 0) (H B m d) (G over)).mono (by omega)) HM.out (h1.over BR.out) (zAc g1 BW.out));clear BR BW h1 g1 kr ko;go_wp2_with fail
  rw [zDh];exact zAn rfl rfl SZ.out Tryz.underlying32 rfl (by kernel_rfl) rfl HF.out
 | cons x r =>
  rw [show (x :: r==([]:List UInt8))=E from rfl] at n0;have HN:=qH (show zAJ S=U by rw [hn];rfl);clear hn hrow;go_wp2_with fail
  go_step3
  have c4:X.cell? ⟨rb,4,U⟩=Z (G s.bad):=h1.bad4.1;have z4:=h1.bad4.2;have hm:=h1.marked Q Q (by simp);have eT:∃l,RX (X.setCell ⟨rb,4,U⟩ (G Q)) rb F ⟨s.T,Q,l⟩:=⟨_,by have:=hm.1;unfold RS.mark at this;simpa using this⟩
  have k9:=kr.grownO hm.2 bs;have g9:=zAb g1 hm.2;clear hm h1 g1 kr ko;go_upto_region 39 with fail
  clear c4 z4;generalize X.setCell ⟨rb,4,U⟩ (G Q)=X9 at eT k9 g9 ⊢;have y0:X9.cell? ⟨w.heap.size,0,U⟩=Z (D J 0):=(k9.cell 0).trans rfl;have iU:=k9.frozen 0;have y1:X9.cell? ⟨w.heap.size,1,U⟩=Z (D J 0):=(k9.cell 1).trans rfl;have iT:=k9.frozen 1;have y2:X9.cell? ⟨w.heap.size,2,U⟩=Z (D J 0):=(k9.cell 2).trans rfl;have j9:=k9.frozen 2;have y3:X9.cell? ⟨w.heap.size,3,U⟩=Z (D J 0):=(k9.cell 3).trans rfl;have j8:=k9.frozen 3;have y4:X9.cell? ⟨w.heap.size,4,U⟩=Z (G E):=(k9.cell 4).trans rfl;have j7:=k9.frozen 4;have y5:X9.cell? ⟨w.heap.size,5,U⟩=Z (D J 0):=(k9.cell 5).trans rfl;have j6:=k9.frozen 5;have y6:X9.cell? ⟨w.heap.size,6,U⟩=Z (H U 0 0):=(k9.cell 6).trans rfl;have j5:=k9.frozen 6;have y7:X9.cell? ⟨w.heap.size,7,U⟩=Z (G E):=(k9.cell 7).trans rfl;have jZ:=k9.frozen 7;have SZ:=qH (k9.store8 (D J 0) (D J 0) (D J 0) (D J 0) (G E) (D J 0) (H U 0 0) (G E));have BR:=qH (zAh (Below.refl (rb+1) X9) (show rb+1≤w.heap.size from bs) (D J 0) (D J 0) (D J 0) (D J 0) (G E) (D J 0) (H U 0 0) (G E));have BW:=qH (zAh (Below.refl w.heap.size X9) bh (D J 0) (D J 0) (D J 0) (D J 0) (G E) (D J 0) (H U 0 0) (G E));have HF:=qH (FN.out HN.out _ (by obtain ⟨l,hl⟩:=eT;exact ⟨l,hl.over BR.out⟩) (zAc g9 BW.out));clear eT k9 g9 BR BW;go_wp2_with fail
  rw [zDh];exact zAn rfl rfl SZ.out Tryz.underlying32 rfl (by kernel_rfl) rfl HF.out
set_option maxHeartbeats 12800000 in
set_option maxRecDepth 100000 in
theorem zNQ (rb:Nat) (F:Fm) (s:RS) (S:List UInt8) (w:World) (hlt0:rb < w.heap.size) (a1 a2:Nat) (cd:a1=w.heap.size+1) (ft:a2=w.heap.size+2) (r:List UInt8) (q:Nat) (hq:q=3) (a:Act) (X:World) (hF:zKF rb w.heap.size a1 a2 a r) (n:Nop) (k f ff:Int) (far:Bool) (hJ:Sc1 w rb w.heap.size a1 F s S X r n k f ff far) :
  ∃rest,findLabel zKG 1=Z rest∧rest.wp Tryz.prog (zDZ (fun l' a' w'=>∃n',n' < q∧zBg w rb a1 a2 F s S l' n' a' w') (zSc w rb F s S)) a X:=by
 have hlt:=hlt0
 have FS:=qH (fun (n:Nop) (o:Og) (hn:zAJ S=Z n) (ho:oOf F.L n=o) (wx:World) (B:Option Addr) (m d:Nat) (hr:Row wx w.heap.size 5 B m d (o.path.flatMap zIg)) (hm:m=o.path.length) (hx:RX wx rb F ⟨s.T,s.bad,s.lost||zAE F.L n⟩) (hg:w.grownBy wx (Z rb)) =>
  (show zCn w rb F s S (.returned (opV o B m d)) wx from .inl ⟨n,hn,B,m,d,by rw [ho],by rw [ho];exact hr,by rw [ho];exact hm,hx,hg⟩))
 have FN:=qH (fun (hn:zAJ S=U) (wx:World) (hx:∃l,RX wx rb F ⟨s.T,Q,l⟩) (hg:w.grownBy wx (Z rb))=>(show zCn w rb F s S (.returned (opV zop U 0 0)) wx from .inr ⟨hn,rfl,hx,hg⟩));have bs:rb < w.heap.size:=hlt;have aq:rb < a1:=by omega
 have bh:w.heap.size≤w.heap.size:=Nat.le_refl _;have aM:w.heap.size≤a1:=by omega
 have fV:w.heap.size < a1:=by omega
 have HQ:=qH hq;clear cd ft hq hlt hlt0;obtain ⟨tm,df⟩:=a;obtain ⟨hs,t0,t1,t4,t5,t7,hd⟩:=hF;simp only at hs t0 t1 t4 t5 t7 hd;subst hd;obtain ⟨v,hv⟩:∃v:Nat→Value,tm=#[.pointer (Z ⟨rb,0,U⟩),W (bA r),v 2,v 3,.pointer (Z ⟨w.heap.size,0,U⟩),.pointer (Z ⟨a1,0,U⟩),v 6,.pointer (Z ⟨a2,0,U⟩),v 8,v 9,v 10,v 11,v 12,v 13,v 14,v 15,v 16,v 17,v 18,v 19,v 20,v 21,v 22,v 23,v 24,v 25,v 26,v 27,v 28,v 29,v 30,v 31,v 32,v 33,v 34,v 35,v 36,v 37,v 38,v 39,v 40,v 41,v 42,v 43,v 44,v 45,v 46,v 47,v 48,v 49,v 50,v 51,v 52,v 53,v 54,v 55,v 56,v 57,v 58,v 59,v 60,v 61,v 62,v 63,v 64,v 65,v 66,v 67,v 68,v 69,v 70,v 71,v 72,v 73,v 74,v 75,v 76,v 77,v 78,v 79,v 80,v 81,v 82,v 83,v 84,v 85,v 86,v 87,v 88,v 89,v 90,v 91,v 92,v 93,v 94,v 95,v 96,v 97,v 98,v 99,v 100,v 101,v 102,v 103,v 104,v 105,v 106,v 107,v 108,v 109,v 110,v 111,v 112,v 113,v 114,v 115,v 116,v 117,v 118,v 119,v 120,v 121,v 122,v 123,v 124,v 125,v 126,v 127,v 128,v 129,v 130,v 131,v 132,v 133,v 134,v 135]:=⟨fun i=>tm.getD i undef,by rw [←t0,←t1,←t4,←t5,←t7];exact zFv 136 tm hs⟩
 subst hv;clear hs t0 t1 t4 t5 t7;simp only [zKG,Tryz.f120,Option.getD,zGe,findLabel];refine ⟨_,rfl,?_⟩;obtain ⟨h1,kr,ko,g1,hn,hp,ho⟩:=hJ;have HO:=qH ho;have dC:=qH (fun wx=>zEj r wx);rw [zFw] at dC;clear ho hp
 cases hfl:zCP r with
 | none =>
  rw [hfl] at dC;have HN:=qH (show zAJ S=U by rw [hn,hfl];rfl);clear hn hfl;go_wp2_with fail
  refine (dC.out X).mono ?_;rintro e iK ⟨rfl,fU⟩;have ij:=kr.below fU kr.lt;have nl:=ko.below fU ko.lt;have lC:=h1.below fU;have lE:=zAb g1 (zAv (row:=Z rb) fU);clear h1 g1 kr ko fU dC;have yH:=nl.frozen 7;have zL:iK.cell? ⟨a1,7,U⟩=Z (G E):=(nl.cell 7).trans rfl;have ka:Below (rb+1) iK (iK.setCell ⟨a1,7,U⟩ (G E)):=(Below.refl _ _).setCell (p:=⟨a1,7,U⟩) aq _;have qQ:Below w.heap.size iK (iK.setCell ⟨a1,7,U⟩ (G E)):=(Below.refl _ _).setCell (p:=⟨a1,7,U⟩) aM _;have dk:=ij.far (p:=⟨a1,7,U⟩) (by simp only;omega) (G E);have dA:=lC.over ka;have dO:=zAc lE qQ;clear lC lE ij nl ka qQ;have HG:=qH (show zCI w rb w.heap.size a1 a2 F s S 0 (1) (iK.setCell ⟨a1,7,U⟩ (G E)) (r) from .inl ⟨rfl,rfl,⟨⟨_,dA⟩,dk,dO,HN.out⟩⟩);clear dA dO dk;go_wp2_with fail
  go_step3
  refine (show ∃n',n' < q∧zBg w rb a1 a2 F s S 0 n' _ _ from ?_);exact ⟨_,by have:=HQ.out;omega,_,r,rfl,⟨rfl,rfl,rfl,rfl,rfl,rfl,rfl⟩,HG⟩
 | some p =>
  obtain ⟨b,r2⟩:=p;rw [hfl] at dC hn;have n0:=zAH r2 [];clear hfl
  cases r2 with
  | nil =>
   rw [show (([]:List UInt8)==[])=Q from rfl] at n0;have HN:=qH (show zAJ S=Z ⟨n.kind,n.f,n.fr,n.path,b⟩ by rw [hn];rfl);clear hn;go_wp2_with fail
   refine (dC.out X).mono ?_;rintro e fR ⟨rfl,vA⟩;have rv:=kr.below vA kr.lt;have lp:=ko.below vA ko.lt;have xy:=h1.below vA;have xF:=zAb g1 (zAv (row:=Z rb) vA);clear h1 g1 kr ko vA dC;have z24:=lp.frozen 7;have CW:fR.cell? ⟨a1,7,U⟩=Z (G E):=(lp.cell 7).trans rfl;have aK:Blk (fR.setCell ⟨a1,7,U⟩ (G b)) a1 32 #[D J k,D J f,D J ff,D J 0,G far,D J 0,H U 0 0,G b]:=lp.set_ 7 _;have vz:Below (rb+1) fR (fR.setCell ⟨a1,7,U⟩ (G b)):=(Below.refl _ _).setCell (p:=⟨a1,7,U⟩) aq _;have vE:Below w.heap.size fR (fR.setCell ⟨a1,7,U⟩ (G b)):=(Below.refl _ _).setCell (p:=⟨a1,7,U⟩) aM _;have am:=rv.far (p:=⟨a1,7,U⟩) (by simp only;omega) (G b);have dH:=xy.over vz;have dJ:=zAc xF vE;clear xy xF rv lp vz vE;go_wp2_with fail
   go_step3
   clear z24 CW;generalize fR.setCell ⟨a1,7,U⟩ (G b)=lJ at dH dJ am aK ⊢;obtain ⟨f0,f1,f2,f3,f4,f5,f6,f7⟩:=cQ8 aK;have y0:lJ.cell? ⟨w.heap.size,0,U⟩=Z (D J 0):=(am.cell 0).trans rfl;have iU:=am.frozen 0;have y1:lJ.cell? ⟨w.heap.size,1,U⟩=Z (D J 0):=(am.cell 1).trans rfl;have iT:=am.frozen 1;have y2:lJ.cell? ⟨w.heap.size,2,U⟩=Z (D J 0):=(am.cell 2).trans rfl;have j9:=am.frozen 2;have y3:lJ.cell? ⟨w.heap.size,3,U⟩=Z (D J 0):=(am.cell 3).trans rfl;have j8:=am.frozen 3;have y4:lJ.cell? ⟨w.heap.size,4,U⟩=Z (G E):=(am.cell 4).trans rfl;have j7:=am.frozen 4;have y5:lJ.cell? ⟨w.heap.size,5,U⟩=Z (D J 0):=(am.cell 5).trans rfl;have j6:=am.frozen 5;have y6:lJ.cell? ⟨w.heap.size,6,U⟩=Z (H U 0 0):=(am.cell 6).trans rfl;have j5:=am.frozen 6;have y7:lJ.cell? ⟨w.heap.size,7,U⟩=Z (G E):=(am.cell 7).trans rfl;have jZ:=am.frozen 7;have SZ:=qH (am.store8 (D J k) (D J f) (D J ff) (D J 0) (G far) (D J 0) (H U 0 0) (G b));have BR:=qH (zAh (Below.refl (rb+1) lJ) (show rb+1≤w.heap.size from bs) (D J k) (D J f) (D J ff) (D J 0) (G far) (D J 0) (H U 0 0) (G b));have BW:=qH (zAh (Below.refl w.heap.size lJ) bh (D J k) (D J f) (D J ff) (D J 0) (G far) (D J 0) (H U 0 0) (G b));have HF:=qH (FS.out ⟨n.kind,n.f,n.fr,n.path,b⟩ ⟨k,f,⟨ff,0,far,0⟩,[],b⟩ HN.out (HO.out b) _ U 0 0 (Row.none_ _ _ _) rfl (dH.over BR.out) (zAc dJ BW.out));clear BR BW dH dJ am aK;go_wp2_with fail
   rw [zDh];exact zAn rfl rfl SZ.out Tryz.underlying32 rfl (by kernel_rfl) rfl HF.out
  | cons x r2 =>
   rw [show (x :: r2==([]:List UInt8))=E from rfl] at n0;have HN:=qH (show zAJ S=U by rw [hn];rfl);clear hn;go_wp2_with fail
   refine (dC.out X).mono ?_;rintro e gG ⟨rfl,fA⟩;have ig:=kr.below fA kr.lt;have ni:=ko.below fA ko.lt;have lB:=h1.below fA;have lD:=zAb g1 (zAv (row:=Z rb) fA);clear h1 g1 kr ko fA dC;have Aj:=ni.frozen 7;have CV:gG.cell? ⟨a1,7,U⟩=Z (G E):=(ni.cell 7).trans rfl;have iA:Below (rb+1) gG (gG.setCell ⟨a1,7,U⟩ (G b)):=(Below.refl _ _).setCell (p:=⟨a1,7,U⟩) aq _;have vD:Below w.heap.size gG (gG.setCell ⟨a1,7,U⟩ (G b)):=(Below.refl _ _).setCell (p:=⟨a1,7,U⟩) aM _;have fM:=ig.far (p:=⟨a1,7,U⟩) (by simp only;omega) (G b);have gp:=lB.over iA;have iv:=zAc lD vD;clear lB lD ig ni iA vD;go_wp2_with fail
   go_step3
   clear Aj CV;generalize gG.setCell ⟨a1,7,U⟩ (G b)=oG at gp iv fM ⊢;go_wp2_with fail
   go_step3
   have c4:oG.cell? ⟨rb,4,U⟩=Z (G s.bad):=gp.bad4.1;have z4:=gp.bad4.2;have hm:=gp.marked Q Q (by simp);have eT:∃l,RX (oG.setCell ⟨rb,4,U⟩ (G Q)) rb F ⟨s.T,Q,l⟩:=⟨_,by have:=hm.1;unfold RS.mark at this;simpa using this⟩
   have k9:=fM.grownO hm.2 bs;have g9:=zAb iv hm.2;clear hm gp iv fM;go_upto_region 39 with fail
   clear c4 z4;generalize oG.setCell ⟨rb,4,U⟩ (G Q)=X9 at eT k9 g9 ⊢;have y0:X9.cell? ⟨w.heap.size,0,U⟩=Z (D J 0):=(k9.cell 0).trans rfl;have iU:=k9.frozen 0;have y1:X9.cell? ⟨w.heap.size,1,U⟩=Z (D J 0):=(k9.cell 1).trans rfl;have iT:=k9.frozen 1;have y2:X9.cell? ⟨w.heap.size,2,U⟩=Z (D J 0):=(k9.cell 2).trans rfl;have j9:=k9.frozen 2;have y3:X9.cell? ⟨w.heap.size,3,U⟩=Z (D J 0):=(k9.cell 3).trans rfl;have j8:=k9.frozen 3;have y4:X9.cell? ⟨w.heap.size,4,U⟩=Z (G E):=(k9.cell 4).trans rfl;have j7:=k9.frozen 4;have y5:X9.cell? ⟨w.heap.size,5,U⟩=Z (D J 0):=(k9.cell 5).trans rfl;have j6:=k9.frozen 5;have y6:X9.cell? ⟨w.heap.size,6,U⟩=Z (H U 0 0):=(k9.cell 6).trans rfl;have j5:=k9.frozen 6;have y7:X9.cell? ⟨w.heap.size,7,U⟩=Z (G E):=(k9.cell 7).trans rfl;have jZ:=k9.frozen 7;have SZ:=qH (k9.store8 (D J 0) (D J 0) (D J 0) (D J 0) (G E) (D J 0) (H U 0 0) (G E));have BR:=qH (zAh (Below.refl (rb+1) X9) (show rb+1≤w.heap.size from bs) (D J 0) (D J 0) (D J 0) (D J 0) (G E) (D J 0) (H U 0 0) (G E));have BW:=qH (zAh (Below.refl w.heap.size X9) bh (D J 0) (D J 0) (D J 0) (D J 0) (G E) (D J 0) (H U 0 0) (G E));have HF:=qH (FN.out HN.out _ (by obtain ⟨l,hl⟩:=eT;exact ⟨l,hl.over BR.out⟩) (zAc g9 BW.out));clear eT k9 g9 BR BW;go_wp2_with fail
   rw [zDh];exact zAn rfl rfl SZ.out Tryz.underlying32 rfl (by kernel_rfl) rfl HF.out
end Go.Proofs.YtlmdfmnbcndhoaaGreatDoor
