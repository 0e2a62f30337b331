/-
  Contract: the program's reader of an item, part b. Conditions: the reader lies in a block, its words and its frame read; the item is not too long.
-/
import Derived.Test.YtlmdfmnbcndhoaaGreatDoorWr18
namespace Go.Proofs.YtlmdfmnbcndhoaaGreatDoor
open Go.RowKit
theorem build_st3 (f l:Int) (far:Bool) (pc:Int) (b:Bool) (w:World):(Instr.build 86 #[(0,.agg #[.int .i64 f,.int .i64 l,.bool far,.int .i64 pc]),(1,.bool b)]).run Tryz.prog w=.ok (.agg #[.int .i64 f,.int .i64 l,.bool far,.int .i64 pc,.bool b]) w:=run_build w _ _ _ (by kernel_rfl)
theorem lostP_app (L:List Fg) (P:List (Nst×Bool)) (x:Nst×Bool):zBy L (P++[x])=(zBy L P||gone L x.1.f):=by simp [zBy]
set_option maxHeartbeats 12800000 in
set_option maxRecDepth 100000 in
theorem scan_pass2 (rb:Nat) (F:Fm) (s:RS) (S:List UInt8) (w:World) (hlt0:rb < w.heap.size) (a1 a2:Nat) (ha1:a1=w.heap.size+1) (ha2:a2=w.heap.size+2) (r:List UInt8) (q:Nat) (hq:q=10+r.length) (a:Act) (X:World) (hF:ScanFr rb w.heap.size a1 a2 a r) (hS:S.length≤100000) (f:Fg) (fi:Int) (P:List (Nst×Bool)) (Ps:List Sp) (B:Option Addr) (m d N:Nat) (x0 x1 x3:Int) (x2:Bool) (hJ:Sc2 w rb w.heap.size a1 a2 F s S X r f fi P Ps B m d N x0 x1 x3 x2) :
  ∃rest,findLabel scanC 2=some rest∧rest.wp Tryz.prog (zDL (fun l' a' w'=>∃n',n' < q∧zAZ w rb a1 a2 F s S l' n' a' w') (scanQ w rb F s S)) a X:=by
 have hlt:=hlt0
 have FS:=Lib.hid (fun (n:Nop) (o:Og) (hn:zAB S=some n) (ho:oOf F.L n=o) (wx:World) (B:Option Addr) (m d:Nat) (hr:Row wx w.heap.size 5 B m d (o.path.flatMap encP)) (hm:m=o.path.length) (hx:RX wx rb F ⟨s.T,s.bad,s.lost||zAA F.L n⟩) (hg:w.grownBy wx (some rb)) =>
  (show zBe w rb F s S (.returned (opV o B m d)) wx from .inl ⟨n,hn,B,m,d,by rw [ho],by rw [ho];exact hr,by rw [ho];exact hm,hx,hg⟩))
 have FN:=Lib.hid (fun (hn:zAB S=none) (wx:World) (hx:∃l,RX wx rb F ⟨s.T,true,l⟩) (hg:w.grownBy wx (some rb))=>(show zBe w rb F s S (.returned (opV zop none 0 0)) wx from .inr ⟨hn,rfl,hx,hg⟩))
 have bop:=zCX
 have HA1:=Lib.hid ha1
 have HA2:=Lib.hid ha2
 have lt_r:rb < w.heap.size:=hlt
 have lt_o:rb < a1:=by omega
 have lt_x:rb < a2:=by omega
 have ge_r:w.heap.size≤w.heap.size:=Nat.le_refl _
 have ge_o:w.heap.size≤a1:=by omega
 have ge_x:w.heap.size≤a2:=by omega
 have lt_r_o:w.heap.size < a1:=by omega
 have lt_r_x:w.heap.size < a2:=by omega
 have lt_o_x:a1 < a2:=by omega
 have HQ:=Lib.hid hq
 clear ha1 ha2 hq hlt hlt0
 obtain ⟨tm,df⟩:=a
 obtain ⟨hs,t0,t1,t4,t5,t7,hd⟩:=hF
 simp only at hs t0 t1 t4 t5 t7 hd
 subst hd
 obtain ⟨v,hv⟩:∃v:Nat→Value,tm=#[.pointer (some ⟨rb,0,none⟩),.string (bA r),v 2,v 3,.pointer (some ⟨w.heap.size,0,none⟩),.pointer (some ⟨a1,0,none⟩),v 6,.pointer (some ⟨a2,0,none⟩),v 8,v 9,v 10,v 11,v 12,v 13,v 14,v 15,v 16,v 17,v 18,v 19,v 20,v 21,v 22,v 23,v 24,v 25,v 26,v 27,v 28,v 29,v 30,v 31,v 32,v 33,v 34,v 35,v 36,v 37,v 38,v 39,v 40,v 41,v 42,v 43,v 44,v 45,v 46,v 47,v 48,v 49,v 50,v 51,v 52,v 53,v 54,v 55,v 56,v 57,v 58,v 59,v 60,v 61,v 62,v 63,v 64,v 65,v 66,v 67,v 68,v 69,v 70,v 71,v 72,v 73,v 74,v 75,v 76,v 77,v 78,v 79,v 80,v 81,v 82,v 83,v 84,v 85,v 86,v 87,v 88,v 89,v 90,v 91,v 92,v 93,v 94,v 95,v 96,v 97,v 98,v 99,v 100,v 101,v 102,v 103,v 104,v 105,v 106,v 107,v 108,v 109,v 110,v 111,v 112,v 113,v 114,v 115,v 116,v 117,v 118,v 119,v 120,v 121,v 122,v 123,v 124,v 125,v 126,v 127,v 128,v 129,v 130,v 131,v 132,v 133,v 134,v 135]:=⟨fun i=>tm.getD i undef,by rw [←t0,←t1,←t4,←t5,←t7];exact zEY 136 tm hs⟩
 subst hv
 clear hs t0 t1 t4 t5 t7
 simp only [scanC,Tryz.f120,Option.getD,zFD,findLabel]
 refine ⟨_,rfl,?_⟩
 obtain ⟨h1,kr,ko,kx,g1,r_1,hm,hps,hfi,hle,hN,hn⟩:=hJ
 obtain ⟨N,rfl⟩:∃n',N=n'+1:=⟨N-1,by omega⟩
 rw [zFy] at hn
 have hm5:m≤100000:=by omega
 have HM:=Lib.hid hm
 have HPS:=Lib.hid hps
 have HFI:=Lib.hid hfi
 have HLE:=Lib.hid hle
 have HNN:=Lib.hid hN
 obtain ⟨LO,hLO⟩:∃x,(s.lost||gone F.L f||zBy F.L P)=x:=⟨_,rfl⟩
 rw [hLO] at h1
 have HLO:=Lib.hid hLO
 have HSH:=Lib.hid (fun wx (hx:RX wx rb F ⟨s.T,s.bad,LO⟩)=>zDO rb F ⟨s.T,s.bad,LO⟩ r wx hx)
 have bst:=build_st3
 clear hm hps hfi hle hN hLO
 go_wp2_with fail
 refine (HSH.out X h1).mono ?_
 intro e X2 hc
 cases hsr:zBb r with
 | none =>
  obtain ⟨rfl,⟨l,hx⟩,hg⟩:=zFC hc hsr
  have HN:=Lib.hid (show zAB S=none by rw [hn,hsr];rfl)
  clear hn hsr
  have k2_r:=kr.grownO hg lt_r
  have k2_o:=ko.grownO hg lt_o
  have k2_x:=kx.grownO hg lt_x
  have r_2:=r_1.overO hg (by omega)
  have g2:=zAb g1 hg
  clear hc hg g1 kr ko kx r_1 h1
  have z21_0:=k2_x.frozen 0
  have d21_0:X2.cell? ⟨a2,0,none⟩=some (.int .i64 x0):=(k2_x.cell 0).trans rfl
  have z21_1:=k2_x.frozen 1
  have d21_1:X2.cell? ⟨a2,1,none⟩=some (.int .i64 x1):=(k2_x.cell 1).trans rfl
  have z21_2:=k2_x.frozen 2
  have d21_2:X2.cell? ⟨a2,2,none⟩=some (.bool x2):=(k2_x.cell 2).trans rfl
  have z21_3:=k2_x.frozen 3
  have d21_3:X2.cell? ⟨a2,3,none⟩=some (.int .i64 x3):=(k2_x.cell 3).trans rfl
  have k21_0:Blk (X2.setCell ⟨a2,0,none⟩ (.int .i64 0)) a2 29 #[.int .i64 0,.int .i64 x1,.bool x2,.int .i64 x3]:=k2_x.set_ 0 _
  have q21_0:Below (rb+1) X2 (X2.setCell ⟨a2,0,none⟩ (.int .i64 0)):=(Below.refl _ _).setCell (p:=⟨a2,0,none⟩) lt_x _
  have p21_0:Below w.heap.size X2 (X2.setCell ⟨a2,0,none⟩ (.int .i64 0)):=(Below.refl _ _).setCell (p:=⟨a2,0,none⟩) ge_x _
  have o21_0_r:=k2_r.far (p:=⟨a2,0,none⟩) (by simp only;omega) (.int .i64 0)
  have o21_0_o:=k2_o.far (p:=⟨a2,0,none⟩) (by simp only;omega) (.int .i64 0)
  have r_21_0:=r_2.farSet (g:=a2) 0 (.int .i64 0) (fun k hk=>by have:=(r_2.lt k hk).1;omega)
  have k21_1:Blk ((X2.setCell ⟨a2,0,none⟩ (.int .i64 0)).setCell ⟨a2,1,none⟩ (.int .i64 0)) a2 29 #[.int .i64 0,.int .i64 0,.bool x2,.int .i64 x3]:=k21_0.set_ 1 _
  have q21_1:Below (rb+1) X2 ((X2.setCell ⟨a2,0,none⟩ (.int .i64 0)).setCell ⟨a2,1,none⟩ (.int .i64 0)):=q21_0.setCell (p:=⟨a2,1,none⟩) lt_x _
  have p21_1:Below w.heap.size X2 ((X2.setCell ⟨a2,0,none⟩ (.int .i64 0)).setCell ⟨a2,1,none⟩ (.int .i64 0)):=p21_0.setCell (p:=⟨a2,1,none⟩) ge_x _
  have o21_1_r:=o21_0_r.far (p:=⟨a2,1,none⟩) (by simp only;omega) (.int .i64 0)
  have o21_1_o:=o21_0_o.far (p:=⟨a2,1,none⟩) (by simp only;omega) (.int .i64 0)
  have r_21_1:=r_21_0.farSet (g:=a2) 1 (.int .i64 0) (fun k hk=>by have:=(r_21_0.lt k hk).1;omega)
  have k21_2:Blk (((X2.setCell ⟨a2,0,none⟩ (.int .i64 0)).setCell ⟨a2,1,none⟩ (.int .i64 0)).setCell ⟨a2,2,none⟩ (.bool false)) a2 29 #[.int .i64 0,.int .i64 0,.bool false,.int .i64 x3]:=k21_1.set_ 2 _
  have q21_2:Below (rb+1) X2 (((X2.setCell ⟨a2,0,none⟩ (.int .i64 0)).setCell ⟨a2,1,none⟩ (.int .i64 0)).setCell ⟨a2,2,none⟩ (.bool false)):=q21_1.setCell (p:=⟨a2,2,none⟩) lt_x _
  have p21_2:Below w.heap.size X2 (((X2.setCell ⟨a2,0,none⟩ (.int .i64 0)).setCell ⟨a2,1,none⟩ (.int .i64 0)).setCell ⟨a2,2,none⟩ (.bool false)):=p21_1.setCell (p:=⟨a2,2,none⟩) ge_x _
  have o21_2_r:=o21_1_r.far (p:=⟨a2,2,none⟩) (by simp only;omega) (.bool false)
  have o21_2_o:=o21_1_o.far (p:=⟨a2,2,none⟩) (by simp only;omega) (.bool false)
  have r_21_2:=r_21_1.farSet (g:=a2) 2 (.bool false) (fun k hk=>by have:=(r_21_1.lt k hk).1;omega)
  have k21_3:Blk ((((X2.setCell ⟨a2,0,none⟩ (.int .i64 0)).setCell ⟨a2,1,none⟩ (.int .i64 0)).setCell ⟨a2,2,none⟩ (.bool false)).setCell ⟨a2,3,none⟩ (.int .i64 0)) a2 29 #[.int .i64 0,.int .i64 0,.bool false,.int .i64 0]:=k21_2.set_ 3 _
  have q21_3:Below (rb+1) X2 ((((X2.setCell ⟨a2,0,none⟩ (.int .i64 0)).setCell ⟨a2,1,none⟩ (.int .i64 0)).setCell ⟨a2,2,none⟩ (.bool false)).setCell ⟨a2,3,none⟩ (.int .i64 0)):=q21_2.setCell (p:=⟨a2,3,none⟩) lt_x _
  have p21_3:Below w.heap.size X2 ((((X2.setCell ⟨a2,0,none⟩ (.int .i64 0)).setCell ⟨a2,1,none⟩ (.int .i64 0)).setCell ⟨a2,2,none⟩ (.bool false)).setCell ⟨a2,3,none⟩ (.int .i64 0)):=p21_2.setCell (p:=⟨a2,3,none⟩) ge_x _
  have o21_3_r:=o21_2_r.far (p:=⟨a2,3,none⟩) (by simp only;omega) (.int .i64 0)
  have o21_3_o:=o21_2_o.far (p:=⟨a2,3,none⟩) (by simp only;omega) (.int .i64 0)
  have r_21_3:=r_21_2.farSet (g:=a2) 3 (.int .i64 0) (fun k hk=>by have:=(r_21_2.lt k hk).1;omega)
  have h21:=hx.over q21_3
  have g21:=zAd g2 p21_3
  clear hx g2 k2_r k2_o k2_x r_2 q21_0 p21_0 k21_0 o21_0_r o21_0_o r_21_0 q21_1 p21_1 k21_1 o21_1_r o21_1_o r_21_1 q21_2 p21_2 k21_2 o21_2_r o21_2_o r_21_2 q21_3 p21_3
  have HG:=Lib.hid (show zCw w rb w.heap.size a1 a2 F s S 0 (1) ((((X2.setCell ⟨a2,0,none⟩ (.int .i64 0)).setCell ⟨a2,1,none⟩ (.int .i64 0)).setCell ⟨a2,2,none⟩ (.bool false)).setCell ⟨a2,3,none⟩ (.int .i64 0)) (r) from .inl ⟨rfl,rfl,⟨⟨_,h21⟩,o21_3_r,g21,HN.out⟩⟩)
  clear h21 g21 o21_3_r o21_3_o k21_3 r_21_3
  go_wp2_with fail
  go_step3
  refine (show ∃n',n' < q∧zAZ w rb a1 a2 F s S 0 n' _ _ from ?_)
  exact ⟨_,by have:=HQ.out;omega,_,r,rfl,⟨rfl,rfl,rfl,rfl,rfl,rfl,rfl⟩,HG⟩
 | some p =>
  obtain ⟨g,far,r1⟩:=p
  obtain ⟨rfl,hx,hg⟩:=zFB hc hsr
  have hsi:=(zGi hsr).2
  have hrl:r1.length≤r.length:=by rw [hsi];simp
  rw [hsr] at hn
  obtain ⟨gi,hgi⟩:∃x,(idxF F.L g:Int)=x:=⟨_,rfl⟩
  rw [hgi]
  have HGI:=Lib.hid hgi
  have HRL:=Lib.hid hrl
  try simp only at hn
  have n0:=zAG r1 []
  clear hsr hsi hgi hrl
  have k2_r:=kr.grownO hg lt_r
  have k2_o:=ko.grownO hg lt_o
  have k2_x:=kx.grownO hg lt_x
  have r_2:=r_1.overO hg (by omega)
  have g2:=zAb g1 hg
  clear hc hg g1 kr ko kx r_1 h1
  have z22_0:=k2_x.frozen 0
  have d22_0:X2.cell? ⟨a2,0,none⟩=some (.int .i64 x0):=(k2_x.cell 0).trans rfl
  have z22_1:=k2_x.frozen 1
  have d22_1:X2.cell? ⟨a2,1,none⟩=some (.int .i64 x1):=(k2_x.cell 1).trans rfl
  have z22_2:=k2_x.frozen 2
  have d22_2:X2.cell? ⟨a2,2,none⟩=some (.bool x2):=(k2_x.cell 2).trans rfl
  have z22_3:=k2_x.frozen 3
  have d22_3:X2.cell? ⟨a2,3,none⟩=some (.int .i64 x3):=(k2_x.cell 3).trans rfl
  have k22_0:Blk (X2.setCell ⟨a2,0,none⟩ (.int .i64 gi)) a2 29 #[.int .i64 gi,.int .i64 x1,.bool x2,.int .i64 x3]:=k2_x.set_ 0 _
  have q22_0:Below (rb+1) X2 (X2.setCell ⟨a2,0,none⟩ (.int .i64 gi)):=(Below.refl _ _).setCell (p:=⟨a2,0,none⟩) lt_x _
  have p22_0:Below w.heap.size X2 (X2.setCell ⟨a2,0,none⟩ (.int .i64 gi)):=(Below.refl _ _).setCell (p:=⟨a2,0,none⟩) ge_x _
  have o22_0_r:=k2_r.far (p:=⟨a2,0,none⟩) (by simp only;omega) (.int .i64 gi)
  have o22_0_o:=k2_o.far (p:=⟨a2,0,none⟩) (by simp only;omega) (.int .i64 gi)
  have r_22_0:=r_2.farSet (g:=a2) 0 (.int .i64 gi) (fun k hk=>by have:=(r_2.lt k hk).1;omega)
  have k22_1:Blk ((X2.setCell ⟨a2,0,none⟩ (.int .i64 gi)).setCell ⟨a2,1,none⟩ (.int .i64 0)) a2 29 #[.int .i64 gi,.int .i64 0,.bool x2,.int .i64 x3]:=k22_0.set_ 1 _
  have q22_1:Below (rb+1) X2 ((X2.setCell ⟨a2,0,none⟩ (.int .i64 gi)).setCell ⟨a2,1,none⟩ (.int .i64 0)):=q22_0.setCell (p:=⟨a2,1,none⟩) lt_x _
  have p22_1:Below w.heap.size X2 ((X2.setCell ⟨a2,0,none⟩ (.int .i64 gi)).setCell ⟨a2,1,none⟩ (.int .i64 0)):=p22_0.setCell (p:=⟨a2,1,none⟩) ge_x _
  have o22_1_r:=o22_0_r.far (p:=⟨a2,1,none⟩) (by simp only;omega) (.int .i64 0)
  have o22_1_o:=o22_0_o.far (p:=⟨a2,1,none⟩) (by simp only;omega) (.int .i64 0)
  have r_22_1:=r_22_0.farSet (g:=a2) 1 (.int .i64 0) (fun k hk=>by have:=(r_22_0.lt k hk).1;omega)
  have k22_2:Blk (((X2.setCell ⟨a2,0,none⟩ (.int .i64 gi)).setCell ⟨a2,1,none⟩ (.int .i64 0)).setCell ⟨a2,2,none⟩ (.bool far)) a2 29 #[.int .i64 gi,.int .i64 0,.bool far,.int .i64 x3]:=k22_1.set_ 2 _
  have q22_2:Below (rb+1) X2 (((X2.setCell ⟨a2,0,none⟩ (.int .i64 gi)).setCell ⟨a2,1,none⟩ (.int .i64 0)).setCell ⟨a2,2,none⟩ (.bool far)):=q22_1.setCell (p:=⟨a2,2,none⟩) lt_x _
  have p22_2:Below w.heap.size X2 (((X2.setCell ⟨a2,0,none⟩ (.int .i64 gi)).setCell ⟨a2,1,none⟩ (.int .i64 0)).setCell ⟨a2,2,none⟩ (.bool far)):=p22_1.setCell (p:=⟨a2,2,none⟩) ge_x _
  have o22_2_r:=o22_1_r.far (p:=⟨a2,2,none⟩) (by simp only;omega) (.bool far)
  have o22_2_o:=o22_1_o.far (p:=⟨a2,2,none⟩) (by simp only;omega) (.bool far)
  have r_22_2:=r_22_1.farSet (g:=a2) 2 (.bool far) (fun k hk=>by have:=(r_22_1.lt k hk).1;omega)
  have k22_3:Blk ((((X2.setCell ⟨a2,0,none⟩ (.int .i64 gi)).setCell ⟨a2,1,none⟩ (.int .i64 0)).setCell ⟨a2,2,none⟩ (.bool far)).setCell ⟨a2,3,none⟩ (.int .i64 0)) a2 29 #[.int .i64 gi,.int .i64 0,.bool far,.int .i64 0]:=k22_2.set_ 3 _
  have q22_3:Below (rb+1) X2 ((((X2.setCell ⟨a2,0,none⟩ (.int .i64 gi)).setCell ⟨a2,1,none⟩ (.int .i64 0)).setCell ⟨a2,2,none⟩ (.bool far)).setCell ⟨a2,3,none⟩ (.int .i64 0)):=q22_2.setCell (p:=⟨a2,3,none⟩) lt_x _
  have p22_3:Below w.heap.size X2 ((((X2.setCell ⟨a2,0,none⟩ (.int .i64 gi)).setCell ⟨a2,1,none⟩ (.int .i64 0)).setCell ⟨a2,2,none⟩ (.bool far)).setCell ⟨a2,3,none⟩ (.int .i64 0)):=p22_2.setCell (p:=⟨a2,3,none⟩) ge_x _
  have o22_3_r:=o22_2_r.far (p:=⟨a2,3,none⟩) (by simp only;omega) (.int .i64 0)
  have o22_3_o:=o22_2_o.far (p:=⟨a2,3,none⟩) (by simp only;omega) (.int .i64 0)
  have r_22_3:=r_22_2.farSet (g:=a2) 3 (.int .i64 0) (fun k hk=>by have:=(r_22_2.lt k hk).1;omega)
  have h22:=hx.over q22_3
  have g22:=zAd g2 p22_3
  clear hx g2 k2_r k2_o k2_x r_2 q22_0 p22_0 k22_0 o22_0_r o22_0_o r_22_0 q22_1 p22_1 k22_1 o22_1_r o22_1_o r_22_1 q22_2 p22_2 k22_2 o22_2_r o22_2_o r_22_2 q22_3 p22_3
  go_upto_region 23 with fail
  clear z22_0 d22_0 z22_1 d22_1 z22_2 d22_2 z22_3 d22_3
  generalize ((((X2.setCell ⟨a2,0,none⟩ (.int .i64 gi)).setCell ⟨a2,1,none⟩ (.int .i64 0)).setCell ⟨a2,2,none⟩ (.bool far)).setCell ⟨a2,3,none⟩ (.int .i64 0))=X3 at h22 g22 o22_3_r o22_3_o k22_3 r_22_3 ⊢
  have f6:X3.cell? ⟨a1,6,none⟩=some (.slice B m d):=(o22_3_o.cell 6).trans rfl
  by_cases hr1:r1=[]
  ·have n1:(r1==([]:List UInt8))=true:=by rw [hr1];rfl
   rw [n1] at n0
   clear n1
   by_cases hm0:m=0
   ·have hP:P=[]:=by have h1:=HM.out;rw [HPS.out,List.length_map] at h1;exact List.length_eq_zero_iff.1 (by omega)
    subst hm0
    subst hr1
    have HN:=Lib.hid (show zAB S=some ⟨3,f,some ⟨g,0,far,0⟩,[],false⟩ by rw [hn,if_pos ⟨rfl,hP⟩];rfl)
    have hPs:Ps=[]:=by rw [HPS.out,hP];rfl
    have HOO:=Lib.hid (show oOf F.L ⟨3,f,some ⟨g,0,far,0⟩,[],false⟩=⟨3,fi,⟨gi,0,far,0⟩,[],false⟩ by rw [HFI.out,←HGI.out];rfl)
    have HLL:=Lib.hid (show (LO||gone F.L g)=(s.lost||zAA F.L ⟨3,f,some ⟨g,0,far,0⟩,[],false⟩) by rw [←HLO.out,hP];simp [zAA,zBy,Bool.or_assoc])
    rw [hPs] at r_22_3
    try simp only at h22
    rw [HLL.out] at h22
    clear hn hP hPs
    have y0:X3.cell? ⟨a2,0,none⟩=some (.int .i64 gi):=(k22_3.cell 0).trans rfl
    have y1:X3.cell? ⟨a2,1,none⟩=some (.int .i64 0):=(k22_3.cell 1).trans rfl
    have y2:X3.cell? ⟨a2,2,none⟩=some (.bool far):=(k22_3.cell 2).trans rfl
    have y3:X3.cell? ⟨a2,3,none⟩=some (.int .i64 0):=(k22_3.cell 3).trans rfl
    have z24_0:=o22_3_o.frozen 2
    have d24_0:X3.cell? ⟨a1,2,none⟩=some (.int .i64 0):=(o22_3_o.cell 2).trans rfl
    have z24_1:=o22_3_o.frozen 3
    have d24_1:X3.cell? ⟨a1,3,none⟩=some (.int .i64 0):=(o22_3_o.cell 3).trans rfl
    have z24_2:=o22_3_o.frozen 4
    have d24_2:X3.cell? ⟨a1,4,none⟩=some (.bool false):=(o22_3_o.cell 4).trans rfl
    have z24_3:=o22_3_o.frozen 5
    have d24_3:X3.cell? ⟨a1,5,none⟩=some (.int .i64 0):=(o22_3_o.cell 5).trans rfl
    have k24_0:Blk (X3.setCell ⟨a1,2,none⟩ (.int .i64 gi)) a1 32 #[.int .i64 3,.int .i64 fi,.int .i64 gi,.int .i64 0,.bool false,.int .i64 0,.slice B 0 d,.bool false]:=o22_3_o.set_ 2 _
    have q24_0:Below (rb+1) X3 (X3.setCell ⟨a1,2,none⟩ (.int .i64 gi)):=(Below.refl _ _).setCell (p:=⟨a1,2,none⟩) lt_o _
    have p24_0:Below w.heap.size X3 (X3.setCell ⟨a1,2,none⟩ (.int .i64 gi)):=(Below.refl _ _).setCell (p:=⟨a1,2,none⟩) ge_o _
    have o24_0_r:=o22_3_r.far (p:=⟨a1,2,none⟩) (by simp only;omega) (.int .i64 gi)
    have o24_0_x:=k22_3.far (p:=⟨a1,2,none⟩) (by simp only;omega) (.int .i64 gi)
    have r_24_0:=r_22_3.farSet (g:=a1) 2 (.int .i64 gi) (fun k hk=>by have:=(r_22_3.lt k hk).1;omega)
    have k24_1:Blk ((X3.setCell ⟨a1,2,none⟩ (.int .i64 gi)).setCell ⟨a1,3,none⟩ (.int .i64 0)) a1 32 #[.int .i64 3,.int .i64 fi,.int .i64 gi,.int .i64 0,.bool false,.int .i64 0,.slice B 0 d,.bool false]:=k24_0.set_ 3 _
    have q24_1:Below (rb+1) X3 ((X3.setCell ⟨a1,2,none⟩ (.int .i64 gi)).setCell ⟨a1,3,none⟩ (.int .i64 0)):=q24_0.setCell (p:=⟨a1,3,none⟩) lt_o _
    have p24_1:Below w.heap.size X3 ((X3.setCell ⟨a1,2,none⟩ (.int .i64 gi)).setCell ⟨a1,3,none⟩ (.int .i64 0)):=p24_0.setCell (p:=⟨a1,3,none⟩) ge_o _
    have o24_1_r:=o24_0_r.far (p:=⟨a1,3,none⟩) (by simp only;omega) (.int .i64 0)
    have o24_1_x:=o24_0_x.far (p:=⟨a1,3,none⟩) (by simp only;omega) (.int .i64 0)
    have r_24_1:=r_24_0.farSet (g:=a1) 3 (.int .i64 0) (fun k hk=>by have:=(r_24_0.lt k hk).1;omega)
    have k24_2:Blk (((X3.setCell ⟨a1,2,none⟩ (.int .i64 gi)).setCell ⟨a1,3,none⟩ (.int .i64 0)).setCell ⟨a1,4,none⟩ (.bool far)) a1 32 #[.int .i64 3,.int .i64 fi,.int .i64 gi,.int .i64 0,.bool far,.int .i64 0,.slice B 0 d,.bool false]:=k24_1.set_ 4 _
    have q24_2:Below (rb+1) X3 (((X3.setCell ⟨a1,2,none⟩ (.int .i64 gi)).setCell ⟨a1,3,none⟩ (.int .i64 0)).setCell ⟨a1,4,none⟩ (.bool far)):=q24_1.setCell (p:=⟨a1,4,none⟩) lt_o _
    have p24_2:Below w.heap.size X3 (((X3.setCell ⟨a1,2,none⟩ (.int .i64 gi)).setCell ⟨a1,3,none⟩ (.int .i64 0)).setCell ⟨a1,4,none⟩ (.bool far)):=p24_1.setCell (p:=⟨a1,4,none⟩) ge_o _
    have o24_2_r:=o24_1_r.far (p:=⟨a1,4,none⟩) (by simp only;omega) (.bool far)
    have o24_2_x:=o24_1_x.far (p:=⟨a1,4,none⟩) (by simp only;omega) (.bool far)
    have r_24_2:=r_24_1.farSet (g:=a1) 4 (.bool far) (fun k hk=>by have:=(r_24_1.lt k hk).1;omega)
    have k24_3:Blk ((((X3.setCell ⟨a1,2,none⟩ (.int .i64 gi)).setCell ⟨a1,3,none⟩ (.int .i64 0)).setCell ⟨a1,4,none⟩ (.bool far)).setCell ⟨a1,5,none⟩ (.int .i64 0)) a1 32 #[.int .i64 3,.int .i64 fi,.int .i64 gi,.int .i64 0,.bool far,.int .i64 0,.slice B 0 d,.bool false]:=k24_2.set_ 5 _
    have q24_3:Below (rb+1) X3 ((((X3.setCell ⟨a1,2,none⟩ (.int .i64 gi)).setCell ⟨a1,3,none⟩ (.int .i64 0)).setCell ⟨a1,4,none⟩ (.bool far)).setCell ⟨a1,5,none⟩ (.int .i64 0)):=q24_2.setCell (p:=⟨a1,5,none⟩) lt_o _
    have p24_3:Below w.heap.size X3 ((((X3.setCell ⟨a1,2,none⟩ (.int .i64 gi)).setCell ⟨a1,3,none⟩ (.int .i64 0)).setCell ⟨a1,4,none⟩ (.bool far)).setCell ⟨a1,5,none⟩ (.int .i64 0)):=p24_2.setCell (p:=⟨a1,5,none⟩) ge_o _
    have o24_3_r:=o24_2_r.far (p:=⟨a1,5,none⟩) (by simp only;omega) (.int .i64 0)
    have o24_3_x:=o24_2_x.far (p:=⟨a1,5,none⟩) (by simp only;omega) (.int .i64 0)
    have r_24_3:=r_24_2.farSet (g:=a1) 5 (.int .i64 0) (fun k hk=>by have:=(r_24_2.lt k hk).1;omega)
    have h24:=h22.over q24_3
    have g24:=zAd g22 p24_3
    clear h22 g22 o22_3_r o22_3_o k22_3 r_22_3 q24_0 p24_0 k24_0 o24_0_r o24_0_x r_24_0 q24_1 p24_1 k24_1 o24_1_r o24_1_x r_24_1 q24_2 p24_2 k24_2 o24_2_r o24_2_x r_24_2 q24_3 p24_3
    have HG:=Lib.hid (show zCw w rb w.heap.size a1 a2 F s S 3 (2) ((((X3.setCell ⟨a1,2,none⟩ (.int .i64 gi)).setCell ⟨a1,3,none⟩ (.int .i64 0)).setCell ⟨a1,4,none⟩ (.bool far)).setCell ⟨a1,5,none⟩ (.int .i64 0)) ([]) from .inr (.inr (.inr ⟨rfl,rfl,⟨⟨3,f,some ⟨g,0,far,0⟩,[],false⟩,3,fi,gi,far,false,[],B,0,d,⟨h24,o24_3_r,k24_3,g24,r_24_3.mono (by omega),rfl,HOO.out,by rw [HN.out];rfl⟩⟩⟩)))
    clear h24 g24 o24_3_r k24_3 o24_3_x r_24_3
    go_wp2_with fail
    go_step3
    refine (show ∃n',n' < q∧zAZ w rb a1 a2 F s S 3 n' _ _ from ?_)
    exact ⟨_,by have:=HQ.out;omega,_,[],rfl,⟨rfl,rfl,rfl,rfl,rfl,rfl,rfl⟩,HG⟩
   ·have i0:((m:Int)==0)=false:=by simp;omega
    have hP:¬(r1=[]∧P=[]):=fun hh=>hm0 (by rw [HM.out,HPS.out,hh.2];rfl)
    have hfl:zCA r1=none:=by rw [hr1];rfl
    clear hm0 hr1
    have HN:=Lib.hid (show zAB S=none by rw [hn,if_neg hP,hfl];rfl)
    have HFL:=Lib.hid (fun wx=>zDW r1 wx)
    rw [zEZ,hfl] at HFL
    clear hn hfl
    go_wp2_with fail
    clear f6
    refine (HFL.out X3).mono ?_
    rintro e X25 ⟨rfl,q25⟩
    have k25_r:=o22_3_r.below q25 o22_3_r.lt
    have k25_o:=o22_3_o.below q25 o22_3_o.lt
    have k25_x:=k22_3.below q25 k22_3.lt
    have h25:=h22.below q25
    have r_25:=r_22_3.below q25
    have g25:=zAb g22 (zAv (row:=some rb) q25)
    clear h22 g22 o22_3_r o22_3_o k22_3 r_22_3 q25 HFL
    have HG:=Lib.hid (show zCw w rb w.heap.size a1 a2 F s S 0 (1) X25 (r1) from .inl ⟨rfl,rfl,⟨⟨_,h25⟩,k25_r,g25,HN.out⟩⟩)
    clear h25 g25 k25_r k25_o k25_x r_25
    go_wp2_with fail
    go_step3
    refine (show ∃n',n' < q∧zAZ w rb a1 a2 F s S 0 n' _ _ from ?_)
    exact ⟨_,by have:=HQ.out;omega,_,r1,rfl,⟨rfl,rfl,rfl,rfl,rfl,rfl,rfl⟩,HG⟩
  ·have n1:(r1==([]:List UInt8))=false:=by simpa using hr1
   rw [n1] at n0
   have hP:¬(r1=[]∧P=[]):=fun hh=>hr1 hh.1
   clear n1 hr1
   cases hfl:zCA r1 with
   | none =>
    have HN:=Lib.hid (show zAB S=none by rw [hn,if_neg hP,hfl];rfl)
    have HFL:=Lib.hid (fun wx=>zDW r1 wx)
    rw [zEZ,hfl] at HFL
    clear hn hfl
    go_wp2_with fail
    clear f6
    refine (HFL.out X3).mono ?_
    rintro e X26 ⟨rfl,q26⟩
    have k26_r:=o22_3_r.below q26 o22_3_r.lt
    have k26_o:=o22_3_o.below q26 o22_3_o.lt
    have k26_x:=k22_3.below q26 k22_3.lt
    have h26:=h22.below q26
    have r_26:=r_22_3.below q26
    have g26:=zAb g22 (zAv (row:=some rb) q26)
    clear h22 g22 o22_3_r o22_3_o k22_3 r_22_3 q26 HFL
    have HG:=Lib.hid (show zCw w rb w.heap.size a1 a2 F s S 0 (1) X26 (r1) from .inl ⟨rfl,rfl,⟨⟨_,h26⟩,k26_r,g26,HN.out⟩⟩)
    clear h26 g26 k26_r k26_o k26_x r_26
    go_wp2_with fail
    go_step3
    refine (show ∃n',n' < q∧zAZ w rb a1 a2 F s S 0 n' _ _ from ?_)
    exact ⟨_,by have:=HQ.out;omega,_,r1,rfl,⟨rfl,rfl,rfl,rfl,rfl,rfl,rfl⟩,HG⟩
   | some p =>
    obtain ⟨b,r2⟩:=p
    have hfi2:=zGS hfl
    have HR2:=Lib.hid (show r2.length≤r1.length by rw [hfi2];simp)
    rw [if_neg hP,hfl] at hn
    have HFL:=Lib.hid (fun wx=>zDW r1 wx)
    rw [zEZ,hfl] at HFL
    try simp only at hn
    have m0:=zAG r2 []
    clear hfl hfi2 hP
    cases r2 with
    | nil =>
     rw [show (([]:List UInt8)==[])=true from rfl] at m0
     have HN:=Lib.hid (show zAB S=none by rw [hn];rfl)
     clear hn
     go_wp2_with fail
     clear f6
     refine (HFL.out X3).mono ?_
     rintro e X27 ⟨rfl,q27⟩
     have k27_r:=o22_3_r.below q27 o22_3_r.lt
     have k27_o:=o22_3_o.below q27 o22_3_o.lt
     have k27_x:=k22_3.below q27 k22_3.lt
     have h27:=h22.below q27
     have r_27:=r_22_3.below q27
     have g27:=zAb g22 (zAv (row:=some rb) q27)
     clear h22 g22 o22_3_r o22_3_o k22_3 r_22_3 q27 HFL
     have HG:=Lib.hid (show zCw w rb w.heap.size a1 a2 F s S 0 (1) X27 ([]) from .inl ⟨rfl,rfl,⟨⟨_,h27⟩,k27_r,g27,HN.out⟩⟩)
     clear h27 g27 k27_r k27_o k27_x r_27
     go_wp2_with fail
     go_step3
     refine (show ∃n',n' < q∧zAZ w rb a1 a2 F s S 0 n' _ _ from ?_)
     exact ⟨_,by have:=HQ.out;omega,_,[],rfl,⟨rfl,rfl,rfl,rfl,rfl,rfl,rfl⟩,HG⟩
    | cons c r3 =>
     rw [show (c :: r3==([]:List UInt8))=false from rfl] at m0
     have s1:=zDE c r3
     have s2:=zGe c r3
     try simp only at hn
     go_wp2_with fail
     clear f6
     refine (HFL.out X3).mono ?_
     rintro e X28 ⟨rfl,q28⟩
     have k28_r:=o22_3_r.below q28 o22_3_r.lt
     have k28_o:=o22_3_o.below q28 o22_3_o.lt
     have k28_x:=k22_3.below q28 k22_3.lt
     have h28:=h22.below q28
     have r_28:=r_22_3.below q28
     have g28:=zAb g22 (zAv (row:=some rb) q28)
     clear h22 g22 o22_3_r o22_3_o k22_3 r_22_3 q28 HFL
     go_upto_region 27 with fail
     have f6:X28.cell? ⟨a1,6,none⟩=some (.slice B m d):=(k28_o.cell 6).trans rfl
     have y0:X28.cell? ⟨a2,0,none⟩=some (.int .i64 gi):=(k28_x.cell 0).trans rfl
     have y1:X28.cell? ⟨a2,1,none⟩=some (.int .i64 0):=(k28_x.cell 1).trans rfl
     have y2:X28.cell? ⟨a2,2,none⟩=some (.bool far):=(k28_x.cell 2).trans rfl
     have y3:X28.cell? ⟨a2,3,none⟩=some (.int .i64 0):=(k28_x.cell 3).trans rfl
     have hsz:a2+1≤X28.heap.size:=by have:=k28_x.lt;omega
     go_upto_region 28 with (at_builtin;refine zGT ?_)
     refine Lib.hid ?_
     refine pushP (y:=⟨⟨gi,0,far,0⟩,b⟩) (N:=m+1) (base:=a2+1) (A:=B) (n:=m) (c:=d) (P:=Ps) rfl (.tmp 95) (.tmp 99) ?_ ?_ ?_ ?_ ?_ ?_ ?_ ?_
     ·rfl
     ·exact r_28
     ·rfl
     ·rfl
     ·rfl
     ·omega
     ·exact hsz
     intro B2 d2 w9 hR9 hg9 hl9
     have hb9:=r_28.belowOf hg9 hsz
     have h9:=h28.over (hb9.mono (by omega))
     have k9_r:=k28_r.below hb9 (by omega)
     have k9_o:=k28_o.below hb9 (by omega)
     have k9_x:=k28_x.below hb9 (by omega)
     have g9:=zAd g28 (hb9.mono (by omega))
     clear hsz hb9 hg9 hl9 h28 g28 k28_r k28_o k28_x r_28 f6 y0 y1 y2 y3
     have z29:=k9_o.frozen 6
     have d29:w9.cell? ⟨a1,6,none⟩=some (.slice B m d):=(k9_o.cell 6).trans rfl
     have k29_o:Blk (w9.setCell ⟨a1,6,none⟩ (.slice B2 (m+1) d2)) a1 32 #[.int .i64 3,.int .i64 fi,.int .i64 0,.int .i64 0,.bool false,.int .i64 0,.slice B2 (m+1) d2,.bool false]:=k9_o.set_ 6 _
     have q29:Below (rb+1) w9 (w9.setCell ⟨a1,6,none⟩ (.slice B2 (m+1) d2)):=(Below.refl _ _).setCell (p:=⟨a1,6,none⟩) lt_o _
     have p29:Below w.heap.size w9 (w9.setCell ⟨a1,6,none⟩ (.slice B2 (m+1) d2)):=(Below.refl _ _).setCell (p:=⟨a1,6,none⟩) ge_o _
     have k29_r:=k9_r.far (p:=⟨a1,6,none⟩) (by simp only;omega) (.slice B2 (m+1) d2)
     have k29_x:=k9_x.far (p:=⟨a1,6,none⟩) (by simp only;omega) (.slice B2 (m+1) d2)
     have h29:=h9.over q29
     have hR9_29:=hR9.farSet (g:=a1) 6 (.slice B2 (m+1) d2) (fun k hk=>by have:=(hR9.lt k hk).1;omega)
     have g29:=zAd g9 p29
     clear h9 g9 k9_r k9_o k9_x hR9 q29 p29
     go_upto_region 28 with fail
     clear z29 d29
     generalize w9.setCell ⟨a1,6,none⟩ (.slice B2 (m+1) d2)=X30 at h29 g29 k29_r k29_o k29_x hR9_29 ⊢
     have HP2:=Lib.hid (show Ps++[(⟨⟨gi,0,far,0⟩,b⟩:Sp)]=(P++[((⟨g,0,far,0⟩:Nst),b)]).map (pOf F.L) by rw [List.map_append,←HPS.out,←HGI.out];rfl)
     have HM2:=Lib.hid (show m+1=(Ps++[(⟨⟨gi,0,far,0⟩,b⟩:Sp)]).length by rw [List.length_append,←HM.out];rfl)
     have HLT:=Lib.hid (show r3.length+1≤r.length by have h1:=HR2.out;have h2:=HRL.out;simp at h1;omega)
     by_cases h44:c=44
     ·rw [if_pos h44] at hn
      subst h44
      rw [show (((44:UInt8).toNat:Nat):Int)=44 from rfl] at s1
      have HLL:=Lib.hid (show (LO||gone F.L g)=(s.lost||gone F.L f||zBy F.L (P++[((⟨g,0,far,0⟩:Nst),b)])) by rw [←HLO.out,lostP_app,Bool.or_assoc])
      try simp only at h29
      rw [HLL.out] at h29
      have HG:=Lib.hid (show zCw w rb w.heap.size a1 a2 F s S 2 (10+r3.length) X30 (r3) from .inr (.inr (.inl ⟨rfl,rfl,⟨f,fi,P++[((⟨g,0,far,0⟩:Nst),b)],Ps++[(⟨⟨gi,0,far,0⟩,b⟩:Sp)],B2,m+1,d2,N,gi,0,0,far,⟨h29,k29_r,k29_o,k29_x,g29,hR9_29,HM2.out,HP2.out,HFI.out,by have h1:=HLT.out;have h2:=HLE.out;omega,by have h1:=HLT.out;have h2:=HNN.out;omega,hn⟩⟩⟩)))
      clear h29 g29 k29_r k29_o k29_x hR9_29
      go_wp2_with fail
      go_step3
      refine (show ∃n',n' < q∧zAZ w rb a1 a2 F s S 2 n' _ _ from ?_)
      exact ⟨_,by have:=HQ.out;have:=HLT.out;omega,_,r3,rfl,⟨rfl,rfl,rfl,rfl,rfl,rfl,rfl⟩,HG⟩
     ·rw [if_neg h44] at hn
      have k44:((c.toNat:Int)==44)=false:=by simp only [beq_eq_false_iff_ne,ne_eq];intro e;exact h44 (UInt8.toNat.inj (show c.toNat=44 by omega))
      by_cases h60:c=60
      ·rw [if_pos h60] at hn
       subst h60
       rw [show (((60:UInt8).toNat:Nat):Int)=60 from rfl] at s1
       try simp only at h29
       have HS2:=Lib.hid (fun wx (hx:RX wx rb F ⟨s.T,s.bad,LO||gone F.L g⟩)=>zDO rb F ⟨s.T,s.bad,LO||gone F.L g⟩ r3 wx hx)
       clear h44 k44
       go_wp2_with fail
       refine (HS2.out X30 h29).mono ?_
       intro e X4 hc
       cases hsr:zBb r3 with
       | none =>
        obtain ⟨rfl,⟨l,hx⟩,hg⟩:=zFC hc hsr
        have HN:=Lib.hid (show zAB S=none by rw [hn,hsr];rfl)
        clear hn hsr
        have k2_r:=k29_r.grownO hg lt_r
        have k2_o:=k29_o.grownO hg lt_o
        have k2_x:=k29_x.grownO hg lt_x
        have r_2:=hR9_29.overO hg (by omega)
        have g2:=zAb g29 hg
        clear hc hg g29 k29_r k29_o k29_x hR9_29 h29
        have z31_0:=k2_o.frozen 2
        have d31_0:X4.cell? ⟨a1,2,none⟩=some (.int .i64 0):=(k2_o.cell 2).trans rfl
        have z31_1:=k2_o.frozen 3
        have d31_1:X4.cell? ⟨a1,3,none⟩=some (.int .i64 0):=(k2_o.cell 3).trans rfl
        have z31_2:=k2_o.frozen 4
        have d31_2:X4.cell? ⟨a1,4,none⟩=some (.bool false):=(k2_o.cell 4).trans rfl
        have z31_3:=k2_o.frozen 5
        have d31_3:X4.cell? ⟨a1,5,none⟩=some (.int .i64 0):=(k2_o.cell 5).trans rfl
        have k31_0:Blk (X4.setCell ⟨a1,2,none⟩ (.int .i64 0)) a1 32 #[.int .i64 3,.int .i64 fi,.int .i64 0,.int .i64 0,.bool false,.int .i64 0,.slice B2 (m+1) d2,.bool false]:=k2_o.set_ 2 _
        have q31_0:Below (rb+1) X4 (X4.setCell ⟨a1,2,none⟩ (.int .i64 0)):=(Below.refl _ _).setCell (p:=⟨a1,2,none⟩) lt_o _
        have p31_0:Below w.heap.size X4 (X4.setCell ⟨a1,2,none⟩ (.int .i64 0)):=(Below.refl _ _).setCell (p:=⟨a1,2,none⟩) ge_o _
        have o31_0_r:=k2_r.far (p:=⟨a1,2,none⟩) (by simp only;omega) (.int .i64 0)
        have o31_0_x:=k2_x.far (p:=⟨a1,2,none⟩) (by simp only;omega) (.int .i64 0)
        have r_31_0:=r_2.farSet (g:=a1) 2 (.int .i64 0) (fun k hk=>by have:=(r_2.lt k hk).1;omega)
        have k31_1:Blk ((X4.setCell ⟨a1,2,none⟩ (.int .i64 0)).setCell ⟨a1,3,none⟩ (.int .i64 0)) a1 32 #[.int .i64 3,.int .i64 fi,.int .i64 0,.int .i64 0,.bool false,.int .i64 0,.slice B2 (m+1) d2,.bool false]:=k31_0.set_ 3 _
        have q31_1:Below (rb+1) X4 ((X4.setCell ⟨a1,2,none⟩ (.int .i64 0)).setCell ⟨a1,3,none⟩ (.int .i64 0)):=q31_0.setCell (p:=⟨a1,3,none⟩) lt_o _
        have p31_1:Below w.heap.size X4 ((X4.setCell ⟨a1,2,none⟩ (.int .i64 0)).setCell ⟨a1,3,none⟩ (.int .i64 0)):=p31_0.setCell (p:=⟨a1,3,none⟩) ge_o _
        have o31_1_r:=o31_0_r.far (p:=⟨a1,3,none⟩) (by simp only;omega) (.int .i64 0)
        have o31_1_x:=o31_0_x.far (p:=⟨a1,3,none⟩) (by simp only;omega) (.int .i64 0)
        have r_31_1:=r_31_0.farSet (g:=a1) 3 (.int .i64 0) (fun k hk=>by have:=(r_31_0.lt k hk).1;omega)
        have k31_2:Blk (((X4.setCell ⟨a1,2,none⟩ (.int .i64 0)).setCell ⟨a1,3,none⟩ (.int .i64 0)).setCell ⟨a1,4,none⟩ (.bool false)) a1 32 #[.int .i64 3,.int .i64 fi,.int .i64 0,.int .i64 0,.bool false,.int .i64 0,.slice B2 (m+1) d2,.bool false]:=k31_1.set_ 4 _
        have q31_2:Below (rb+1) X4 (((X4.setCell ⟨a1,2,none⟩ (.int .i64 0)).setCell ⟨a1,3,none⟩ (.int .i64 0)).setCell ⟨a1,4,none⟩ (.bool false)):=q31_1.setCell (p:=⟨a1,4,none⟩) lt_o _
        have p31_2:Below w.heap.size X4 (((X4.setCell ⟨a1,2,none⟩ (.int .i64 0)).setCell ⟨a1,3,none⟩ (.int .i64 0)).setCell ⟨a1,4,none⟩ (.bool false)):=p31_1.setCell (p:=⟨a1,4,none⟩) ge_o _
        have o31_2_r:=o31_1_r.far (p:=⟨a1,4,none⟩) (by simp only;omega) (.bool false)
        have o31_2_x:=o31_1_x.far (p:=⟨a1,4,none⟩) (by simp only;omega) (.bool false)
        have r_31_2:=r_31_1.farSet (g:=a1) 4 (.bool false) (fun k hk=>by have:=(r_31_1.lt k hk).1;omega)
        have k31_3:Blk ((((X4.setCell ⟨a1,2,none⟩ (.int .i64 0)).setCell ⟨a1,3,none⟩ (.int .i64 0)).setCell ⟨a1,4,none⟩ (.bool false)).setCell ⟨a1,5,none⟩ (.int .i64 0)) a1 32 #[.int .i64 3,.int .i64 fi,.int .i64 0,.int .i64 0,.bool false,.int .i64 0,.slice B2 (m+1) d2,.bool false]:=k31_2.set_ 5 _
        have q31_3:Below (rb+1) X4 ((((X4.setCell ⟨a1,2,none⟩ (.int .i64 0)).setCell ⟨a1,3,none⟩ (.int .i64 0)).setCell ⟨a1,4,none⟩ (.bool false)).setCell ⟨a1,5,none⟩ (.int .i64 0)):=q31_2.setCell (p:=⟨a1,5,none⟩) lt_o _
        have p31_3:Below w.heap.size X4 ((((X4.setCell ⟨a1,2,none⟩ (.int .i64 0)).setCell ⟨a1,3,none⟩ (.int .i64 0)).setCell ⟨a1,4,none⟩ (.bool false)).setCell ⟨a1,5,none⟩ (.int .i64 0)):=p31_2.setCell (p:=⟨a1,5,none⟩) ge_o _
        have o31_3_r:=o31_2_r.far (p:=⟨a1,5,none⟩) (by simp only;omega) (.int .i64 0)
        have o31_3_x:=o31_2_x.far (p:=⟨a1,5,none⟩) (by simp only;omega) (.int .i64 0)
        have r_31_3:=r_31_2.farSet (g:=a1) 5 (.int .i64 0) (fun k hk=>by have:=(r_31_2.lt k hk).1;omega)
        have h31:=hx.over q31_3
        have g31:=zAd g2 p31_3
        clear hx g2 k2_r k2_o k2_x r_2 q31_0 p31_0 k31_0 o31_0_r o31_0_x r_31_0 q31_1 p31_1 k31_1 o31_1_r o31_1_x r_31_1 q31_2 p31_2 k31_2 o31_2_r o31_2_x r_31_2 q31_3 p31_3
        have HG:=Lib.hid (show zCw w rb w.heap.size a1 a2 F s S 0 (1) ((((X4.setCell ⟨a1,2,none⟩ (.int .i64 0)).setCell ⟨a1,3,none⟩ (.int .i64 0)).setCell ⟨a1,4,none⟩ (.bool false)).setCell ⟨a1,5,none⟩ (.int .i64 0)) (r3) from .inl ⟨rfl,rfl,⟨⟨_,h31⟩,o31_3_r,g31,HN.out⟩⟩)
        clear h31 g31 o31_3_r k31_3 o31_3_x r_31_3
        go_wp2_with fail
        go_step3
        refine (show ∃n',n' < q∧zAZ w rb a1 a2 F s S 0 n' _ _ from ?_)
        exact ⟨_,by have:=HQ.out;omega,_,r3,rfl,⟨rfl,rfl,rfl,rfl,rfl,rfl,rfl⟩,HG⟩
       | some p =>
        obtain ⟨g2_,far2,r4⟩:=p
        obtain ⟨rfl,hx,hg⟩:=zFB hc hsr
        obtain ⟨gj,hgj⟩:∃x,(idxF F.L g2_:Int)=x:=⟨_,rfl⟩
        rw [hgj]
        rw [hsr] at hn
        have HN:=Lib.hid (show zAB S=endGo ⟨3,f,some ⟨g2_,0,far2,0⟩,P++[((⟨g,0,far,0⟩:Nst),b)],false⟩ r4 by rw [hn];cases r4<;>rfl)
        have HOO:=Lib.hid (show oOf F.L ⟨3,f,some ⟨g2_,0,far2,0⟩,P++[((⟨g,0,far,0⟩:Nst),b)],false⟩=⟨3,fi,⟨gj,0,far2,0⟩,Ps++[(⟨⟨gi,0,far,0⟩,b⟩:Sp)],false⟩ by rw [HFI.out,←hgj,HP2.out];rfl)
        have HLL:=Lib.hid (show (LO||gone F.L g||gone F.L g2_)=(s.lost||zAA F.L ⟨3,f,some ⟨g2_,0,far2,0⟩,P++[((⟨g,0,far,0⟩:Nst),b)],false⟩) by rw [←HLO.out];simp only [zAA,lostP_app,Bool.or_assoc])
        try simp only at hx
        rw [HLL.out] at hx
        clear hn hsr hgj
        have k2_r:=k29_r.grownO hg lt_r
        have k2_o:=k29_o.grownO hg lt_o
        have k2_x:=k29_x.grownO hg lt_x
        have r_2:=hR9_29.overO hg (by omega)
        have g2:=zAb g29 hg
        clear hc hg g29 k29_r k29_o k29_x hR9_29 h29
        have z32_0:=k2_o.frozen 2
        have d32_0:X4.cell? ⟨a1,2,none⟩=some (.int .i64 0):=(k2_o.cell 2).trans rfl
        have z32_1:=k2_o.frozen 3
        have d32_1:X4.cell? ⟨a1,3,none⟩=some (.int .i64 0):=(k2_o.cell 3).trans rfl
        have z32_2:=k2_o.frozen 4
        have d32_2:X4.cell? ⟨a1,4,none⟩=some (.bool false):=(k2_o.cell 4).trans rfl
        have z32_3:=k2_o.frozen 5
        have d32_3:X4.cell? ⟨a1,5,none⟩=some (.int .i64 0):=(k2_o.cell 5).trans rfl
        have k32_0:Blk (X4.setCell ⟨a1,2,none⟩ (.int .i64 gj)) a1 32 #[.int .i64 3,.int .i64 fi,.int .i64 gj,.int .i64 0,.bool false,.int .i64 0,.slice B2 (m+1) d2,.bool false]:=k2_o.set_ 2 _
        have q32_0:Below (rb+1) X4 (X4.setCell ⟨a1,2,none⟩ (.int .i64 gj)):=(Below.refl _ _).setCell (p:=⟨a1,2,none⟩) lt_o _
        have p32_0:Below w.heap.size X4 (X4.setCell ⟨a1,2,none⟩ (.int .i64 gj)):=(Below.refl _ _).setCell (p:=⟨a1,2,none⟩) ge_o _
        have o32_0_r:=k2_r.far (p:=⟨a1,2,none⟩) (by simp only;omega) (.int .i64 gj)
        have o32_0_x:=k2_x.far (p:=⟨a1,2,none⟩) (by simp only;omega) (.int .i64 gj)
        have r_32_0:=r_2.farSet (g:=a1) 2 (.int .i64 gj) (fun k hk=>by have:=(r_2.lt k hk).1;omega)
        have k32_1:Blk ((X4.setCell ⟨a1,2,none⟩ (.int .i64 gj)).setCell ⟨a1,3,none⟩ (.int .i64 0)) a1 32 #[.int .i64 3,.int .i64 fi,.int .i64 gj,.int .i64 0,.bool false,.int .i64 0,.slice B2 (m+1) d2,.bool false]:=k32_0.set_ 3 _
        have q32_1:Below (rb+1) X4 ((X4.setCell ⟨a1,2,none⟩ (.int .i64 gj)).setCell ⟨a1,3,none⟩ (.int .i64 0)):=q32_0.setCell (p:=⟨a1,3,none⟩) lt_o _
        have p32_1:Below w.heap.size X4 ((X4.setCell ⟨a1,2,none⟩ (.int .i64 gj)).setCell ⟨a1,3,none⟩ (.int .i64 0)):=p32_0.setCell (p:=⟨a1,3,none⟩) ge_o _
        have o32_1_r:=o32_0_r.far (p:=⟨a1,3,none⟩) (by simp only;omega) (.int .i64 0)
        have o32_1_x:=o32_0_x.far (p:=⟨a1,3,none⟩) (by simp only;omega) (.int .i64 0)
        have r_32_1:=r_32_0.farSet (g:=a1) 3 (.int .i64 0) (fun k hk=>by have:=(r_32_0.lt k hk).1;omega)
        have k32_2:Blk (((X4.setCell ⟨a1,2,none⟩ (.int .i64 gj)).setCell ⟨a1,3,none⟩ (.int .i64 0)).setCell ⟨a1,4,none⟩ (.bool far2)) a1 32 #[.int .i64 3,.int .i64 fi,.int .i64 gj,.int .i64 0,.bool far2,.int .i64 0,.slice B2 (m+1) d2,.bool false]:=k32_1.set_ 4 _
        have q32_2:Below (rb+1) X4 (((X4.setCell ⟨a1,2,none⟩ (.int .i64 gj)).setCell ⟨a1,3,none⟩ (.int .i64 0)).setCell ⟨a1,4,none⟩ (.bool far2)):=q32_1.setCell (p:=⟨a1,4,none⟩) lt_o _
        have p32_2:Below w.heap.size X4 (((X4.setCell ⟨a1,2,none⟩ (.int .i64 gj)).setCell ⟨a1,3,none⟩ (.int .i64 0)).setCell ⟨a1,4,none⟩ (.bool far2)):=p32_1.setCell (p:=⟨a1,4,none⟩) ge_o _
        have o32_2_r:=o32_1_r.far (p:=⟨a1,4,none⟩) (by simp only;omega) (.bool far2)
        have o32_2_x:=o32_1_x.far (p:=⟨a1,4,none⟩) (by simp only;omega) (.bool far2)
        have r_32_2:=r_32_1.farSet (g:=a1) 4 (.bool far2) (fun k hk=>by have:=(r_32_1.lt k hk).1;omega)
        have k32_3:Blk ((((X4.setCell ⟨a1,2,none⟩ (.int .i64 gj)).setCell ⟨a1,3,none⟩ (.int .i64 0)).setCell ⟨a1,4,none⟩ (.bool far2)).setCell ⟨a1,5,none⟩ (.int .i64 0)) a1 32 #[.int .i64 3,.int .i64 fi,.int .i64 gj,.int .i64 0,.bool far2,.int .i64 0,.slice B2 (m+1) d2,.bool false]:=k32_2.set_ 5 _
        have q32_3:Below (rb+1) X4 ((((X4.setCell ⟨a1,2,none⟩ (.int .i64 gj)).setCell ⟨a1,3,none⟩ (.int .i64 0)).setCell ⟨a1,4,none⟩ (.bool far2)).setCell ⟨a1,5,none⟩ (.int .i64 0)):=q32_2.setCell (p:=⟨a1,5,none⟩) lt_o _
        have p32_3:Below w.heap.size X4 ((((X4.setCell ⟨a1,2,none⟩ (.int .i64 gj)).setCell ⟨a1,3,none⟩ (.int .i64 0)).setCell ⟨a1,4,none⟩ (.bool far2)).setCell ⟨a1,5,none⟩ (.int .i64 0)):=p32_2.setCell (p:=⟨a1,5,none⟩) ge_o _
        have o32_3_r:=o32_2_r.far (p:=⟨a1,5,none⟩) (by simp only;omega) (.int .i64 0)
        have o32_3_x:=o32_2_x.far (p:=⟨a1,5,none⟩) (by simp only;omega) (.int .i64 0)
        have r_32_3:=r_32_2.farSet (g:=a1) 5 (.int .i64 0) (fun k hk=>by have:=(r_32_2.lt k hk).1;omega)
        have h32:=hx.over q32_3
        have g32:=zAd g2 p32_3
        clear hx g2 k2_r k2_o k2_x r_2 q32_0 p32_0 k32_0 o32_0_r o32_0_x r_32_0 q32_1 p32_1 k32_1 o32_1_r o32_1_x r_32_1 q32_2 p32_2 k32_2 o32_2_r o32_2_x r_32_2 q32_3 p32_3
        have HG:=Lib.hid (show zCw w rb w.heap.size a1 a2 F s S 3 (2) ((((X4.setCell ⟨a1,2,none⟩ (.int .i64 gj)).setCell ⟨a1,3,none⟩ (.int .i64 0)).setCell ⟨a1,4,none⟩ (.bool far2)).setCell ⟨a1,5,none⟩ (.int .i64 0)) (r4) from .inr (.inr (.inr ⟨rfl,rfl,⟨⟨3,f,some ⟨g2_,0,far2,0⟩,P++[((⟨g,0,far,0⟩:Nst),b)],false⟩,3,fi,gj,far2,false,Ps++[(⟨⟨gi,0,far,0⟩,b⟩:Sp)],B2,m+1,d2,⟨h32,o32_3_r,k32_3,g32,r_32_3.mono (by omega),HM2.out,HOO.out,HN.out⟩⟩⟩)))
        clear h32 g32 o32_3_r k32_3 o32_3_x r_32_3
        go_wp2_with fail
        go_step3
        refine (show ∃n',n' < q∧zAZ w rb a1 a2 F s S 3 n' _ _ from ?_)
        exact ⟨_,by have:=HQ.out;omega,_,r4,rfl,⟨rfl,rfl,rfl,rfl,rfl,rfl,rfl⟩,HG⟩
      ·have HN:=Lib.hid (show zAB S=none by rw [hn,if_neg h60];rfl)
       have k60:((c.toNat:Int)==60)=false:=by simp only [beq_eq_false_iff_ne,ne_eq];intro e;exact h60 (UInt8.toNat.inj (show c.toNat=60 by omega))
       clear hn h44 h60
       have HG:=Lib.hid (show zCw w rb w.heap.size a1 a2 F s S 0 (1) X30 (c :: r3) from .inl ⟨rfl,rfl,⟨⟨_,h29⟩,k29_r,g29,HN.out⟩⟩)
       clear h29 g29 k29_r k29_o k29_x hR9_29
       go_wp2_with fail
       go_step3
       refine (show ∃n',n' < q∧zAZ w rb a1 a2 F s S 0 n' _ _ from ?_)
       exact ⟨_,by have:=HQ.out;omega,_,c :: r3,rfl,⟨rfl,rfl,rfl,rfl,rfl,rfl,rfl⟩,HG⟩
end Go.Proofs.YtlmdfmnbcndhoaaGreatDoor
