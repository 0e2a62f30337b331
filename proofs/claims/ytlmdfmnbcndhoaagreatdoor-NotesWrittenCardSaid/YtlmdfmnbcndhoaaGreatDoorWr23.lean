/-
  Contract: the program's split. Conditions: the string is not too long; the library's tables stand.
  Contract: the program's reader of an operation in words, of every kind. Conditions: the reader lies in a block, its words and its frame read; there are not too many words.
  Contracts: the program's begin, parse, ReadWords. Conditions: the frame reads; the library's tables stand.
  Contract: the program's ReadWords. Conditions: the frame reads; the library's tables stand.
  Plain: operations of a frame and operations by names: the same lines, the same items. No program.
-/
import Derived.Test.YtlmdfmnbcndhoaaGreatDoorWr15
import Derived.Test.YtlmdfmnbcndhoaaGreatDoorWr21
import Derived.Test.YtlmdfmnbcndhoaaGreatDoorWr22
import Derived.Test.YtlmdfmnbcndhoaaGreatDoorWr16
namespace Go.Proofs.YtlmdfmnbcndhoaaGreatDoor
open Go.RowKit
theorem cutSuffix_any (S:List UInt8) (hs:S.length≤1000000) (w:World) :
  Calls Tryz.prog 145 #[.string (bA S),.string ⟨#[44]⟩] w fun e w'=>e=.returned (.tuple #[.string (bA (if S.getLast? = some 44 then S.dropLast else S)),.bool (decide (S.getLast? = some 44))])∧w'=w:=by
 refine (Tryz.strings_CutSuffix (bA S) ⟨#[44]⟩ w (by rw [zAO];omega)).mono ?_
 rintro e w' ⟨rfl,rfl⟩
 have h1:Lib.hasSuffix S [44]=decide (S.getLast? = some 44):=by
  unfold Lib.hasSuffix
  by_cases h:S.getLast? = some 44
  ·rw [decide_eq_true h,List.isSuffixOf_iff_suffix]
   obtain ⟨C,rfl⟩:=List.getLast?_eq_some_iff.1 h
   exact ⟨C,rfl⟩
  ·rw [decide_eq_false h]
   cases e:List.isSuffixOf [44] S with
   | false=>rfl
   | true =>
    obtain ⟨C,hC⟩:=List.isSuffixOf_iff_suffix.1 e
    exact absurd (List.getLast?_eq_some_iff.2 ⟨C,hC.symm⟩) h
 have h2:Lib.trimSuffix S [44]=if S.getLast? = some 44 then S.dropLast else S:=by
  unfold Lib.trimSuffix
  rw [h1]
  by_cases h:S.getLast? = some 44
  ·rw [if_pos h,if_pos (decide_eq_true h),List.dropLast_eq_take];rfl
  ·rw [if_neg h,if_neg (by simpa using h)]
 simp only [zDw]
 rw [h1,h2]
 exact ⟨rfl,trivial⟩
theorem zGU (s:List UInt8) (hs:s.length≤100000) (w:World) (ht:Tabs w) :
  Calls Tryz.prog 119 #[.string (bA s),.string ⟨#[32]⟩] w fun e w'=>e=.returned (.slice (some ⟨w.heap.size,0,none⟩) (splt 32 s).length (splt 32 s).length)∧w'=w.alloc (.cells ((splt 32 s).map fun p=>Value.string (bA p)).toArray 9):=by
 obtain ⟨m,hm⟩:=ht.most
 refine (Tryz.strings_Split (bA s) ⟨#[32]⟩ m w (by rw [zAO];omega) hm (by decide)).mono ?_
 rintro e w' ⟨rfl,rfl⟩
 have h1:Lib.splitB ⟨#[32]⟩ 0 (Lib.countB (bA s) ⟨#[32]⟩) (bA s)=(splt 32 s).map bA:=splitB_splt 32 s
 have h2:Lib.countB (bA s) ⟨#[32]⟩+1=(splt 32 s).length:=by
  rw [zGf]
  congr 1
  exact Lib.count_one 32 s
 rw [h1,h2,List.map_map]
 exact ⟨rfl,rfl⟩
/-- A row reads as elements of any size. -/
theorem Row.els {α:Type} {w:World} {base sz:Nat} {A:Option Addr} {n c:Nat} {enc:α→List Value} {L:List α} (h:Row w base sz A n c (L.flatMap enc)) (hz:∀x,(enc x).length=sz) (h0:0 < sz) (hn:n≤17592186043904):Els sz enc w A n L:=by
 have hl:L.length=n:=by
  have:=h.len
  have h2:∀M:List α,(M.flatMap enc).length=M.length*sz:=fun M=>by
   induction M with
   | nil=>simp
   | cons x M ih=>rw [List.flatMap_cons,List.length_append,ih,hz,List.length_cons,Nat.add_mul];omega
  rw [h2] at this
  exact Nat.eq_of_mul_eq_mul_right h0 this
 refine ⟨hl,hn,fun hp=>?_⟩
 obtain ⟨g,o,e,_,hg⟩:=h.form hp
 subst e
 refine ⟨g,o,rfl,hg,fun j x hx q v hv=>?_⟩
 have hq:q < sz:=by rw [←hz x];exact (List.getElem?_eq_some_iff.1 hv).1
 have:=h.cell (j:=j*sz+q) (by rw [zFu enc sz hz L j q x hx hq];exact hv)
 rwa [←Nat.add_assoc] at this
theorem map_strs (T:List (List UInt8)):T.map strV=T.flatMap (fun S=>[strV S]):=by
 induction T with
 | nil=>rfl
 | cons x T ih=>rw [List.map_cons,List.flatMap_cons,ih];rfl
theorem Row.txts {w:World} {base:Nat} {A:Option Addr} {n c:Nat} {T:List (List UInt8)} (h:Row w base 1 A n c (T.map strV)) (hn:n≤17592186043904):Txts w A n T:=by
 rw [map_strs] at h
 exact h.els (fun _=>rfl) (by omega) hn
/-- Two strings are put behind an own slice of strings. -/
theorem pushT2 {w:World} {ops:Array Oper} {rest:List Oper} {o:Oper} {a:Act} {Q:Exit→Act→World→Prop} (hgd:o.guard=none) (s x:Operand)
  (ho:o.op=.call { callee:=.builtin .append,args:=#[s,x],argTypes:=#[112,112] })
  {base:Nat} {A:Option Addr} {n c:Nat} {Ss:List (List UInt8)} (hst:Row w base 1 A n c (Ss.map strV)) (S R:List UInt8)
  (hs:a.eval s=.slice A n c) (hx:a.eval x=.slice (some ⟨w.heap.size,0,none⟩) 2 2) (N:Nat) (hN:n+2=N) (hn:N≤1000000) (hbase:base≤w.heap.size)
  (h:∀A' c' w',Row w' base 1 A' N c' ((Ss++[S,R]).map strV)→Below base w w'→wpList Tryz.prog ops Q rest (a.put o.dst (.slice A' N c')) w') :
  wpList Tryz.prog ops Q (o :: rest) a (w.alloc (.cells #[.string (bA S),.string (bA R)] 9)):=by
 obtain ⟨i0,hi,hz0,hz1,hz2⟩:=info_parts strInfo
 have hbl:=(Below.refl w.heap.size w).alloc (Nat.le_refl _) (.cells #[.string (bA S),.string (bA R)] 9)
 have hst1:=hst.below hbl
 refine appR hgd s x 112 ho 9 i0 _ 1 16 Tryz.underlying112 hi hz0 hz1 hz2 rfl (by decide) hst1 (Src.new (m:=2) (cs:=[.string (bA S),.string (bA R)]) rfl)
  (by intro u hu;simp at hu;rcases hu with rfl | rfl<;>rfl) hs hx N hN (by unfold maxLen;omega) (by omega) (by simp;omega) ?_
 intro A' c' w' h1 h2 _ _
 refine h A' c' w' (by rw [List.map_append];exact h1) ?_
 exact ((Below.refl _ _).alloc hbase _).trans (hst1.belowOf h2 (by simp;omega))
def SplitGives (w0:World) (T:List (List UInt8)) (e:Ending) (w':World):Prop :=
 ∃B m d,e=.returned (.slice B m d)∧Row w' w0.heap.size 1 B m d (T.map strV)∧m≤1000000∧Below w0.heap.size w0 w'
theorem commas_len (W:List (List UInt8)):(W.flatMap zAS).length≤2*W.length:=by
 induction W with
 | nil=>simp
 | cons x W ih =>
  have:(zAS x).length≤2:=by rcases zBk x with ⟨h,_⟩ | ⟨C,_,h⟩<;>rw [h]<;>simp
  rw [List.flatMap_cons,List.length_append,List.length_cons];omega
theorem zCn (S:List UInt8):(splt 32 S).length≤S.length+1:=by
 rw [zGf]
 have:=List.count_le_length (a:=(32:UInt8)) (l:=S)
 omega
theorem zFE (S:List UInt8):(zBr S).length≤2*S.length+2:=by
 have:=commas_len (splt 32 S)
 have:=zCn S
 unfold zBr
 omega
set_option maxHeartbeats 3200000 in
theorem notes_split (S:List UInt8) (hS:S.length≤100000) (w:World) (ht:Tabs w) :
  Calls Tryz.prog 97 #[.string (bA S)] w (SplitGives w (zBr S)):=by
 have HSP:=Lib.hid (zGU S hS w ht)
 obtain ⟨Ws,hW⟩:∃W,splt 32 S=W:=⟨_,rfl⟩
 rw [hW] at HSP
 have hpl:∀p∈Ws,p.length≤100000:=fun p hp=>by rw [←hW] at hp;exact Nat.le_trans (zCm 32 S p hp) hS
 have hwl:Ws.length≤100001:=by rw [←hW];have:=zCn S;omega
 have HT:=Lib.hid (show zBr S=Ws.flatMap zAS by unfold zBr;rw [hW])
 have HPL:=Lib.hid hpl
 rw [HT.out]
 obtain ⟨n,hn⟩:∃n,Ws.length=n:=⟨_,rfl⟩
 rw [hn] at HSP hwl
 have HN:=Lib.hid hn
 clear hW hpl ht hn hS HT
 go_enter Tryz.func97,Tryz.ntmps97
 go_wp2_with fail
 refine HSP.out.mono ?_
 rintro e X ⟨rfl,hX⟩
 have hbX:Below w.heap.size w X:=by rw [hX];exact (Below.refl _ _).alloc (Nat.le_refl _) _
 have hcX:∀(j:Nat) (p:List UInt8),Ws[j]? = some p→X.cell? ⟨w.heap.size,j,none⟩=some (.string (bA p)):=fun j p hp=>by
  rw [hX,World.cell?_alloc_at _ _ _ _ rfl]
  simp [hp]
 have hlX:w.heap.size < X.heap.size:=by rw [hX];simp
 have HCX:=Lib.hid hcX
 clear hX hcX HSP
 go_wp2_with fail
 go_loopw [3,11] (fun v3 v11 wv=>∃(i:Nat) (Y:World) (A':Option Addr) (m c':Nat) (T:List (List UInt8)),Y=wv∧i≤n∧v11=.int .i64 i∧v3=.slice A' m c'∧Row Y X.heap.size 1 A' m c' (T.map strV)∧Below X.heap.size X Y∧m≤2*i∧Hid (T=(Ws.take i).flatMap zAS)) (fun _ v11 _=>n-(intOf v11).toNat)
 case atStart=>exact ⟨0,_,none,0,0,[],rfl,by omega,rfl,rfl,Row.none_ _ _ _,Below.refl _ _,by omega,Lib.hid rfl⟩
 case round =>
  obtain ⟨i,Y,A',m,c',T,hY,hi,rfl,rfl,hR,hb,hm,HTT⟩:=hrel
  subst hY
  by_cases hlt:i < n
  ·have j0:(0:Int)≤(i:Int):=by omega
   have j1:(i:Int) < (n:Int):=by omega
   obtain ⟨p,hp⟩:∃p,Ws[i]? = some p:=⟨Ws[i]'(by rw [HN.out];exact hlt),List.getElem?_eq_getElem _⟩
   have hc:Y.cell? ⟨w.heap.size,i,none⟩=some (.string (bA p)):=(hb.cell (p:=⟨w.heap.size,i,none⟩) hlX).trans (HCX.out i p hp)
   have hlen:p.length≤1000000:=Nat.le_trans (HPL.out p (List.mem_of_getElem? hp)) (by omega)
   have HCU:=Lib.hid (cutSuffix_any p hlen Y)
   have hz:X.heap.size≤Y.heap.size:=hb.size
   by_cases hq:p.getLast? = some 44
   ·rw [if_pos hq,decide_eq_true hq] at HCU
    obtain ⟨C,hC⟩:∃C,p.dropLast=C:=⟨_,rfl⟩
    rw [hC] at HCU
    have HT2:=Lib.hid (show T++[C,[44]]=(Ws.take (i+1)).flatMap zAS by
     rw [List.take_add_one,hp,List.flatMap_append,HTT.out]
     simp [zAS,hq,hC])
    clear hp hlen hq hC HTT
    go_wp2_with fail
    refine HCU.out.mono ?_
    rintro e Y2 ⟨rfl,rfl⟩
    go_wp2_with (at_builtin;refine pushT2 rfl _ _ rfl hR C [44] rfl rfl (m+2) rfl (by omega) hz ?_;intro A2 c2 w9 hR9 hb9)
    have hb10:=hb.trans hb9
    clear hR hb hb9 hc
    go_wp2_with fail
    go_roundw
    case rel=>exact ⟨i+1,_,A2,m+2,c2,T++[C,[44]],rfl,by omega,by go_num,rfl,hR9,hb10,by omega,HT2⟩
    case measure=>simp [intOf];omega
   ·rw [if_neg hq,decide_eq_false hq] at HCU
    have HT2:=Lib.hid (show T++[p]=(Ws.take (i+1)).flatMap zAS by
     rw [List.take_add_one,hp,List.flatMap_append,HTT.out]
     simp [zAS,hq])
    clear hp hlen hq HTT
    go_wp2_with fail
    refine HCU.out.mono ?_
    rintro e Y2 ⟨rfl,rfl⟩
    go_wp2_with (at_builtin;refine pushT rfl _ _ rfl hR p rfl rfl (m+1) rfl (by omega) hz ?_;intro A2 c2 w9 hR9 hb9)
    have hb10:=hb.trans hb9
    clear hR hb hb9 hc
    go_wp2_with fail
    go_roundw
    case rel=>exact ⟨i+1,_,A2,m+1,c2,T++[p],rfl,by omega,by go_num,rfl,hR9,hb10,by omega,HT2⟩
    case measure=>simp [intOf];omega
  ·have j1:¬(i:Int) < (n:Int):=by omega
   have hin:i=n:=by omega
   have HTE:=Lib.hid (show T=Ws.flatMap zAS by rw [HTT.out,hin,←HN.out,List.take_length])
   have hz:w.heap.size≤X.heap.size:=hbX.size
   clear hin hlt HTT HCX
   go_wp2_with fail
   go_ret
   exact ⟨A',m,c',rfl,by rw [←HTE.out];exact hR.mono hz,by omega,zAa hbX hb hbX.size⟩
end Go.Proofs.YtlmdfmnbcndhoaaGreatDoor
namespace Go.Proofs.YtlmdfmnbcndhoaaGreatDoor
open Go.RowKit
theorem reader_op (rb:Nat) (F:Fm) (s:RS) (w:World) (h:RX w rb F s) (hT:s.T.length≤100000) :
  Calls Tryz.prog 98 #[.pointer (some ⟨rb,0,none⟩)] w (zEv w rb F (opR F.L s).1 (opR F.L s).2):=by
 by_cases h3:zBG (xa s.T 0)=3
 ·exact reader_op_a rb F s w h hT h3
 by_cases h6:zBG (xa s.T 0)=6∨zBG (xa s.T 0)=7
 ·exact reader_op_c rb F s w h hT h6
 ·exact reader_op_b rb F s w h hT ⟨h3,fun e=>h6 (.inl e),fun e=>h6 (.inr e)⟩
end Go.Proofs.YtlmdfmnbcndhoaaGreatDoor
namespace Go.Proofs.YtlmdfmnbcndhoaaGreatDoor
open Go.RowKit
def zAD (L:List Fg) (re lo:Int) (S:List UInt8):Int:=if frB L re lo then (if 8000 < S.length then 7 else 0) else 2
theorem zDj (A:Option Addr) (n c:Nat) (L:List Fg) (re lo:Int) (S:List UInt8) (w:World) (hA:Fgs w A n L) (hc:n≤c) :
  Calls Tryz.prog 51 #[frV A n c re lo,.string (bA S)] w fun e w'=>e=.returned (.int .i64 (zAD L re lo S))∧Below w.heap.size w w':=by
 obtain ⟨b,hb⟩:∃b,frB L re lo=b:=⟨_,rfl⟩
 have hs:=zFw S
 obtain ⟨n1,hn1⟩:∃n,S.length=n:=⟨_,rfl⟩
 have HR:=Lib.hid (show zAD L re lo S=if b then (if 8000 < n1 then 7 else 0) else 2 by unfold zAD;rw [hb,hn1])
 rw [hn1] at hs
 have hb0:Below w.heap.size w (w.alloc (.cells #[.slice A n c,.int .i64 re,.int .i64 lo] 24)):=(Below.refl _ _).alloc (Nat.le_refl _) _
 have hk0:Blk (w.alloc (.cells #[.slice A n c,.int .i64 re,.int .i64 lo] 24)) w.heap.size 24 #[.slice A n c,.int .i64 re,.int .i64 lo]:=Blk.new _ _ _
 have HV:=Lib.hid (zEL hb A n c _ (hA.below hb0) hc)
 have HB:=Lib.hid hb0
 clear hb hn1 hb0
 go_enter Tryz.func51,Tryz.ntmps51
 go_wp2_with fail
 refine HV.out.mono ?_
 rintro e w2 ⟨rfl,hb2⟩
 have HB2:=Lib.hid (zAa HB.out hb2 HB.out.size)
 clear hb2 HV HB hk0
 cases b with
 | false =>
  go_wp2_with fail
  go_ret
  exact ⟨by rw [HR.out];rfl,HB2.out⟩
 | true =>
  by_cases h8:8000 < n1
  ·have i0:(8000:Int) < (n1:Int):=by omega
   have HR2:=Lib.hid (HR.out.trans (show _=(7:Int) by rw [if_pos rfl,if_pos h8]))
   clear h8 HR
   go_wp2_with fail
   go_ret
   exact ⟨by rw [HR2.out];rfl,HB2.out⟩
  ·have i0:¬(8000:Int) < (n1:Int):=by omega
   have HR2:=Lib.hid (HR.out.trans (show _=(0:Int) by rw [if_pos rfl,if_neg h8]))
   clear h8 HR
   go_wp2_with fail
   go_ret
   exact ⟨by rw [HR2.out];rfl,HB2.out⟩
/-- What reading a line gives. -/
noncomputable def parB (L:List Fg) (S:List UInt8):Bool:=(opR L ⟨zBr S,false,false⟩).2.bad||!(opR L ⟨zBr S,false,false⟩).2.T.isEmpty
noncomputable def parL (L:List Fg) (S:List UInt8):Bool:=(opR L ⟨zBr S,false,false⟩).2.lost
noncomputable def parE (L:List Fg) (S:List UInt8):Int:=if parB L S then 6 else if parL L S then 8 else 0
def o0:Og:=⟨0,0,s0,[],false⟩
noncomputable def parO (L:List Fg) (S:List UInt8):Og:=if parE L S=0 then (opR L ⟨zBr S,false,false⟩).1 else o0
/-- An operation and an error, the operation's path in memory of its own. -/
def OpErr (w0:World) (o:Og) (er:Int) (e:Ending) (w':World):Prop :=
 ∃B m d,e=.returned (.tuple #[opV o B m d,.int .i64 er])∧Row w' w0.heap.size 5 B m d (o.path.flatMap encP)∧m=o.path.length∧Below w0.heap.size w0 w'
theorem build_rd (A:Option Addr) (n c:Nat) (re lo:Int) (B:Option Addr) (m d:Nat) (w:World):(Instr.build 123 #[(0,.agg #[.slice A n c,.int .i64 re,.int .i64 lo]),(1,.slice B m d)]).run Tryz.prog w=.ok (.agg (rdC A n c re lo B m d false false)) w:=run_build w _ _ _ (by kernel_rfl)
theorem zDQ {a b:World} (h:Below a.heap.size a b) (o:Obj):Below a.heap.size a (b.alloc o):=h.alloc h.size o
set_option maxHeartbeats 6400000 in
theorem zGV (F:Fm) (S:List UInt8) (w:World) (hA:Fgs w F.A F.n F.L) (hS:S.length≤20000) (ht:Tabs w) :
  Calls Tryz.prog 52 #[frV F.A F.n F.c F.re F.lo,.string (bA S)] w (OpErr w (parO F.L S) (parE F.L S)):=by
 have hb0:Below w.heap.size w ((w.alloc (.cells #[.slice F.A F.n F.c,.int .i64 F.re,.int .i64 F.lo] 24)).alloc (.cells #[.int .i64 0,.int .i64 0,.int .i64 0,.int .i64 0,.bool false,.int .i64 0,.slice none 0 0,.bool false] 32)):=((Below.refl _ _).alloc (Nat.le_refl _) _).alloc (by simp) _
 have hk0:Blk ((w.alloc (.cells #[.slice F.A F.n F.c,.int .i64 F.re,.int .i64 F.lo] 24)).alloc (.cells #[.int .i64 0,.int .i64 0,.int .i64 0,.int .i64 0,.bool false,.int .i64 0,.slice none 0 0,.bool false] 32)) w.heap.size 24 #[.slice F.A F.n F.c,.int .i64 F.re,.int .i64 F.lo]:=(Blk.new w _ _).alloc _
 have hk1:Blk ((w.alloc (.cells #[.slice F.A F.n F.c,.int .i64 F.re,.int .i64 F.lo] 24)).alloc (.cells #[.int .i64 0,.int .i64 0,.int .i64 0,.int .i64 0,.bool false,.int .i64 0,.slice none 0 0,.bool false] 32)) (w.heap.size+1) 32 #[.int .i64 0,.int .i64 0,.int .i64 0,.int .i64 0,.bool false,.int .i64 0,.slice none 0 0,.bool false]:=by
  have:=Blk.new (w.alloc (.cells #[.slice F.A F.n F.c,.int .i64 F.re,.int .i64 F.lo] 24)) 32 #[.int .i64 0,.int .i64 0,.int .i64 0,.int .i64 0,.bool false,.int .i64 0,.slice none 0 0,.bool false]
  rwa [World.size_alloc] at this
 have HA:=Lib.hid hA
 have HT:=Lib.hid ht
 have HSP:=Lib.hid (fun wx (hx:Tabs wx)=>notes_split S (by omega) wx hx)
 have brd:=build_rd
 have bop:=zCX
 obtain ⟨a1,ha1⟩:∃a,a=w.heap.size+1:=⟨_,rfl⟩
 have HA1:=Lib.hid ha1
 clear hA ht
 go_enter Tryz.func52,Tryz.ntmps52
 go_wp2_with fail
 generalize (w.alloc (.cells #[.slice F.A F.n F.c,.int .i64 F.re,.int .i64 F.lo] 24)).alloc (.cells #[.int .i64 0,.int .i64 0,.int .i64 0,.int .i64 0,.bool false,.int .i64 0,.slice none 0 0,.bool false] 32)=Y at hb0 hk0 hk1 ⊢
 rw [←ha1] at hk1 ⊢
 clear ha1
 have KP:=Lib.hid (show ∀wx,Below Y.heap.size Y wx→(Below Y.heap.size Y wx∧wx.cell? ⟨w.heap.size,0,none⟩=some (.slice F.A F.n F.c)∧wx.cell? ⟨w.heap.size,1,none⟩=some (.int .i64 F.re)∧wx.cell? ⟨w.heap.size,2,none⟩=some (.int .i64 F.lo)) from
  fun wx h=>⟨h,((hk0.below h hk0.lt).cell 0).trans rfl,((hk0.below h hk0.lt).cell 1).trans rfl,((hk0.below h hk0.lt).cell 2).trans rfl⟩)
 have TB:=Lib.hid (fun wx (h:Below Y.heap.size Y wx)=>HT.out.below (zAa hb0 h hb0.size))
 go_upto_region 1 with fail
 first
  | go_region_held3 (fun wx=>Below Y.heap.size Y wx∧wx.cell? ⟨w.heap.size,0,none⟩=some (.slice F.A F.n F.c)∧wx.cell? ⟨w.heap.size,1,none⟩=some (.int .i64 F.re)∧wx.cell? ⟨w.heap.size,2,none⟩=some (.int .i64 F.lo)) (first | assumption | exact KP.out _ (Below.refl _ _).drew | exact KP.out _ (zAa (Below.refl Y.heap.size Y).drew (by assumption) (Nat.le_refl _)) | exact KP.out _ (zDQ (zAa (Below.refl Y.heap.size Y).drew (by assumption) (Nat.le_refl _)) _))
    (first
     | (go_at_call 97;refine (HSP.out _ (TB.out _ (And.left (by assumption)))).mono ?_;rintro e wa ⟨B,m,d,rfl,hRa,hma,hba⟩))
  | fail
 all_goals
  have hbx:Below Y.heap.size Y wa:=zAa (Below.refl Y.heap.size Y).drew hba (Nat.le_refl _)
  have hbz:Below Y.heap.size Y (wa.alloc (.cells (rdC F.A F.n F.c F.re F.lo B m d false false) 123)):=zDQ hbx _
  have hwz:Below w.heap.size w (wa.alloc (.cells (rdC F.A F.n F.c F.re F.lo B m d false false) 123)):=zAa hb0 hbz hb0.size
  have hbl:=(Below.refl wa.heap.size wa).alloc (Nat.le_refl _) (.cells (rdC F.A F.n F.c F.re F.lo B m d false false) 123)
  have hrx:RX (wa.alloc (.cells (rdC F.A F.n F.c F.re F.lo B m d false false) 123)) wa.heap.size F ⟨zBr S,false,false⟩ :=
   ⟨⟨B,m,d,Blk.new _ _ _,Els.below (hRa.txts (by omega)) hbl,hRa.cap,fun k hk=>(hRa.lt k hk).2⟩,HA.out.below hwz,fun h0 k hk=>by
    obtain ⟨g,o,e,hg,_⟩:=HA.out.1.2.2 h0
    rw [e] at hk
    injection hk with hk
    have hk':g=k:=hk
    have h1:=hb0.size
    have h2:=hbx.size
    omega⟩
  have hkz:=hk1.below hbz hk1.lt
  have hlt1:a1 < wa.heap.size:=Nat.lt_of_lt_of_le hk1.lt hbx.size
  have hTl:(zBr S).length≤100000:=by have:=zFE S;omega
  clear hba hRa hma hbl hbz hbx hk0 hk1 KP TB HSP
  generalize wa.alloc (.cells (rdC F.A F.n F.c F.re F.lo B m d false false) 123)=Z at hrx hkz hwz ⊢
  have HLT:Hid (a1 < Z.heap.size):=Lib.hid (Nat.lt_trans hlt1 hrx.lt)
  generalize wa.heap.size=rb at hrx hlt1 ⊢
  have hOP:=reader_op rb F ⟨zBr S,false,false⟩ Z hrx hTl
  obtain ⟨ov,eov⟩:∃x,(opR F.L ⟨zBr S,false,false⟩).1=x:=⟨_,rfl⟩
  obtain ⟨st,est⟩:∃x,(opR F.L ⟨zBr S,false,false⟩).2=x:=⟨_,rfl⟩
  rw [eov,est] at hOP
  have HOP:=Lib.hid hOP
  have EOV:=Lib.hid eov
  have EST:=Lib.hid est
  clear hOP eov est hTl
  go_wp2_with fail
  refine HOP.out.mono ?_
  rintro e Z2 ⟨B2,m2,d2,rfl,hrow,hm2,hx2,hg2⟩
  have HM2:=Lib.hid hm2
  clear hm2
  obtain ⟨kk,ff,⟨gf,gl,gfar,gpc⟩,path,vov⟩:=ov
  obtain ⟨B3,m3,d3,hk3,hT3,hmd3,hne3⟩:=hx2.rd.ex
  have hwz2:Below w.heap.size w Z2:=zAa hwz (zBL hg2 (show w.heap.size≤rb by have:=HA1.out;omega) hwz.size) (Nat.le_refl _)
  have hkr2:=hkz.grown hg2 (fun he=>by injection he with he;omega)
  have b3:Below Z2.heap.size Z2 (Z2.alloc (.cells #[.int .i64 kk,.int .i64 ff,.int .i64 gf,.int .i64 gl,.bool gfar,.int .i64 gpc,.slice B2 m2 d2,.bool vov] 32)):=(Below.refl _ _).alloc (Nat.le_refl _) _
  have hkr3:=hkr2.below b3 hkr2.lt
  have hrd3:=hk3.below b3 hk3.lt
  have hop3:Blk (Z2.alloc (.cells #[.int .i64 kk,.int .i64 ff,.int .i64 gf,.int .i64 gl,.bool gfar,.int .i64 gpc,.slice B2 m2 d2,.bool vov] 32)) Z2.heap.size 32 #[.int .i64 kk,.int .i64 ff,.int .i64 gf,.int .i64 gl,.bool gfar,.int .i64 gpc,.slice B2 m2 d2,.bool vov]:=Blk.new _ _ _
  have hw3:=zAa hwz2 b3 hwz2.size
  have hrow3:=hrow.below b3
  have hm3:st.T.length=m3:=hT3.len
  obtain ⟨b4,eb4⟩:∃b,st.bad=b:=⟨_,rfl⟩
  obtain ⟨b5,eb5⟩:∃b,st.lost=b:=⟨_,rfl⟩
  rw [eb4,eb5] at hrd3
  have HPB:=Lib.hid (show parB F.L S=(b4||!decide (m3=0)) by unfold parB;rw [EST.out,eb4,←hm3];cases st.T<;>simp)
  have HPL:=Lib.hid (show parL F.L S=b5 by unfold parL;rw [EST.out,eb5])
  clear hT3 hmd3 hne3 hk3 b3 hkr2 hkz hwz hg2 hx2 hrow hwz2 hm3 eb4 eb5 EST hlt1
  go_upto_region 3 with fail
  generalize Z2.alloc (.cells #[.int .i64 kk,.int .i64 ff,.int .i64 gf,.int .i64 gl,.bool gfar,.int .i64 gpc,.slice B2 m2 d2,.bool vov] 32)=Z3 at hkr3 hrd3 hop3 hw3 hrow3 ⊢
  generalize Z2.heap.size=a7 at hop3 ⊢
  have c3:Z3.cell? ⟨rb,3,none⟩=some (.slice B3 m3 d3):=(hrd3.cell 3).trans rfl
  have c4:Z3.cell? ⟨rb,4,none⟩=some (.bool b4):=(hrd3.cell 4).trans rfl
  have c5:Z3.cell? ⟨rb,5,none⟩=some (.bool b5):=(hrd3.cell 5).trans rfl
  have y0:Z3.cell? ⟨a1,0,none⟩=some (.int .i64 0):=(hkr3.cell 0).trans rfl
  have yz0:=hkr3.frozen 0
  have y1:Z3.cell? ⟨a1,1,none⟩=some (.int .i64 0):=(hkr3.cell 1).trans rfl
  have yz1:=hkr3.frozen 1
  have y2:Z3.cell? ⟨a1,2,none⟩=some (.int .i64 0):=(hkr3.cell 2).trans rfl
  have yz2:=hkr3.frozen 2
  have y3:Z3.cell? ⟨a1,3,none⟩=some (.int .i64 0):=(hkr3.cell 3).trans rfl
  have yz3:=hkr3.frozen 3
  have y4:Z3.cell? ⟨a1,4,none⟩=some (.bool false):=(hkr3.cell 4).trans rfl
  have yz4:=hkr3.frozen 4
  have y5:Z3.cell? ⟨a1,5,none⟩=some (.int .i64 0):=(hkr3.cell 5).trans rfl
  have yz5:=hkr3.frozen 5
  have y6:Z3.cell? ⟨a1,6,none⟩=some (.slice none 0 0):=(hkr3.cell 6).trans rfl
  have yz6:=hkr3.frozen 6
  have y7:Z3.cell? ⟨a1,7,none⟩=some (.bool false):=(hkr3.cell 7).trans rfl
  have yz7:=hkr3.frozen 7
  have f0:Z3.cell? ⟨a7,0,none⟩=some (.int .i64 kk):=(hop3.cell 0).trans rfl
  have f1:Z3.cell? ⟨a7,1,none⟩=some (.int .i64 ff):=(hop3.cell 1).trans rfl
  have f2:Z3.cell? ⟨a7,2,none⟩=some (.int .i64 gf):=(hop3.cell 2).trans rfl
  have f3:Z3.cell? ⟨a7,3,none⟩=some (.int .i64 gl):=(hop3.cell 3).trans rfl
  have f4:Z3.cell? ⟨a7,4,none⟩=some (.bool gfar):=(hop3.cell 4).trans rfl
  have f5:Z3.cell? ⟨a7,5,none⟩=some (.int .i64 gpc):=(hop3.cell 5).trans rfl
  have f6:Z3.cell? ⟨a7,6,none⟩=some (.slice B2 m2 d2):=(hop3.cell 6).trans rfl
  have f7:Z3.cell? ⟨a7,7,none⟩=some (.bool vov):=(hop3.cell 7).trans rfl
  have hge:w.heap.size≤a1:=by have:=HA1.out;omega
  have SZ:=Lib.hid (hkr3.store8 (.int .i64 0) (.int .i64 0) (.int .i64 0) (.int .i64 0) (.bool false) (.int .i64 0) (.slice none 0 0) (.bool false))
  have BZ:=Lib.hid (zAf hw3 hge (.int .i64 0) (.int .i64 0) (.int .i64 0) (.int .i64 0) (.bool false) (.int .i64 0) (.slice none 0 0) (.bool false))
  have SV:=Lib.hid (hkr3.store8 (.int .i64 kk) (.int .i64 ff) (.int .i64 gf) (.int .i64 gl) (.bool gfar) (.int .i64 gpc) (.slice B2 m2 d2) (.bool vov))
  have BV:=Lib.hid (zAf hw3 hge (.int .i64 kk) (.int .i64 ff) (.int .i64 gf) (.int .i64 gl) (.bool gfar) (.int .i64 gpc) (.slice B2 m2 d2) (.bool vov))
  have hlt9:a1 < Z.heap.size:=HLT.out
  have RV:=Lib.hid ((hrow3.store8 hlt9 (.int .i64 kk) (.int .i64 ff) (.int .i64 gf) (.int .i64 gl) (.bool gfar) (.int .i64 gpc) (.slice B2 m2 d2) (.bool vov)).mono (Nat.le_of_lt (Nat.lt_of_le_of_lt hge hlt9)))
  clear hkr3 hrd3 hop3 hw3 hrow3 hlt9 hge
  by_cases hbd:b4=true∨¬m3=0
  ·have HE:=Lib.hid (show parE F.L S=6 by unfold parE;rw [HPB.out];rcases hbd with h | h<;>simp [h])
   have HO:=Lib.hid (show parO F.L S=o0 by unfold parO;rw [HE.out];rfl)
   cases b4 with
   | true =>
    clear hbd c3 c5
    go_wp2_with fail
    exact zBj rfl rfl rfl SZ.out Tryz.underlying32 rfl (by kernel_rfl) rfl (by rw [HE.out,HO.out];exact ⟨none,0,0,rfl,Row.none_ _ _ _,rfl,BZ.out⟩)
   | false =>
    have i1:0 < m3:=by have:=hbd.resolve_left (by simp);omega
    have i0:(0:Int) < (m3:Int):=by omega
    clear hbd c5
    go_wp2_with fail
    exact zBj rfl rfl rfl SZ.out Tryz.underlying32 rfl (by kernel_rfl) rfl (by rw [HE.out,HO.out];exact ⟨none,0,0,rfl,Row.none_ _ _ _,rfl,BZ.out⟩)
  ·have hb4:b4=false:=by cases b4<;>simp at hbd ⊢
   subst hb4
   have hm0:m3=0:=by simpa using hbd
   subst hm0
   clear hbd
   cases b5 with
   | true =>
    have HE:=Lib.hid (show parE F.L S=8 by unfold parE;rw [HPB.out,HPL.out];rfl)
    have HO:=Lib.hid (show parO F.L S=o0 by unfold parO;rw [HE.out];rfl)
    go_wp2_with fail
    exact zBj rfl rfl rfl SZ.out Tryz.underlying32 rfl (by kernel_rfl) rfl (by rw [HE.out,HO.out];exact ⟨none,0,0,rfl,Row.none_ _ _ _,rfl,BZ.out⟩)
   | false =>
    have HE:=Lib.hid (show parE F.L S=0 by unfold parE;rw [HPB.out,HPL.out];rfl)
    have HO:=Lib.hid (show parO F.L S=⟨kk,ff,⟨gf,gl,gfar,gpc⟩,path,vov⟩ by unfold parO;rw [HE.out,if_pos rfl];exact EOV.out)
    go_wp2_with fail
    exact zBj rfl rfl rfl SV.out Tryz.underlying32 rfl (by kernel_rfl) rfl (by rw [HE.out,HO.out];exact ⟨B2,m2,d2,rfl,RV.out,HM2.out,BV.out⟩)
end Go.Proofs.YtlmdfmnbcndhoaaGreatDoor
namespace Go.Proofs.YtlmdfmnbcndhoaaGreatDoor
open Go.RowKit
noncomputable def rdE (L:List Fg) (re lo:Int) (S:List UInt8):Int:=if zAD L re lo S=0 then parE L S else zAD L re lo S
noncomputable def rdO (L:List Fg) (re lo:Int) (S:List UInt8):Og:=if zAD L re lo S=0 then parO L S else o0
theorem zBY {L:List Fg} {re lo:Int} {S:List UInt8} (h:zAD L re lo S=0):S.length≤8000∧frB L re lo=true:=by
 unfold zAD at h
 split at h
 ·rename_i h1
  split at h
  ·omega
  ·exact ⟨by omega,h1⟩
 ·omega
theorem zEw (L:List Fg) (re lo:Int) (S:List UInt8):zAD L re lo S=0∨zAD L re lo S=2∨zAD L re lo S=7:=by
 unfold zAD
 split
 ·split<;>omega
 ·omega
set_option maxHeartbeats 6400000 in
theorem zGW (F:Fm) (S:List UInt8) (w:World) (hA:Fgs w F.A F.n F.L) (hc:F.n≤F.c) (ht:Tabs w) :
  Calls Tryz.prog 17 #[frV F.A F.n F.c F.re F.lo,.string (bA S)] w (OpErr w (rdO F.L F.re F.lo S) (rdE F.L F.re F.lo S)):=by
 have hb0:Below w.heap.size w ((w.alloc (.cells #[.slice F.A F.n F.c,.int .i64 F.re,.int .i64 F.lo] 24)).alloc (.cells #[.int .i64 0,.int .i64 0,.int .i64 0,.int .i64 0,.bool false,.int .i64 0,.slice none 0 0,.bool false] 32)):=((Below.refl _ _).alloc (Nat.le_refl _) _).alloc (by simp) _
 have hk0:Blk ((w.alloc (.cells #[.slice F.A F.n F.c,.int .i64 F.re,.int .i64 F.lo] 24)).alloc (.cells #[.int .i64 0,.int .i64 0,.int .i64 0,.int .i64 0,.bool false,.int .i64 0,.slice none 0 0,.bool false] 32)) w.heap.size 24 #[.slice F.A F.n F.c,.int .i64 F.re,.int .i64 F.lo]:=(Blk.new w _ _).alloc _
 have hk1:Blk ((w.alloc (.cells #[.slice F.A F.n F.c,.int .i64 F.re,.int .i64 F.lo] 24)).alloc (.cells #[.int .i64 0,.int .i64 0,.int .i64 0,.int .i64 0,.bool false,.int .i64 0,.slice none 0 0,.bool false] 32)) (w.heap.size+1) 32 #[.int .i64 0,.int .i64 0,.int .i64 0,.int .i64 0,.bool false,.int .i64 0,.slice none 0 0,.bool false]:=by
  have:=Blk.new (w.alloc (.cells #[.slice F.A F.n F.c,.int .i64 F.re,.int .i64 F.lo] 24)) 32 #[.int .i64 0,.int .i64 0,.int .i64 0,.int .i64 0,.bool false,.int .i64 0,.slice none 0 0,.bool false]
  rwa [World.size_alloc] at this
 have HA:=Lib.hid hA
 have HT:=Lib.hid ht
 obtain ⟨E,hE⟩:∃E,zAD F.L F.re F.lo S=E:=⟨_,rfl⟩
 have hcs:=zEw F.L F.re F.lo S
 rw [hE] at hcs
 have HBG:=Lib.hid (fun wx (hx:Fgs wx F.A F.n F.L)=>zDj F.A F.n F.c F.L F.re F.lo S wx hx hc)
 simp only [hE] at HBG
 have HE:=Lib.hid hE
 have bop:=zCX
 obtain ⟨a1,ha1⟩:∃a,a=w.heap.size+1:=⟨_,rfl⟩
 have hge:w.heap.size≤a1:=by omega
 have HGE:=Lib.hid hge
 clear hA ht hE hge
 go_enter Tryz.func17,Tryz.ntmps17
 go_wp2_with fail
 generalize ((w.alloc (.cells #[.slice F.A F.n F.c,.int .i64 F.re,.int .i64 F.lo] 24)).alloc (.cells #[.int .i64 0,.int .i64 0,.int .i64 0,.int .i64 0,.bool false,.int .i64 0,.slice none 0 0,.bool false] 32))=Y at hb0 hk0 hk1 ⊢
 rw [←ha1] at hk1 ⊢
 clear ha1
 refine (HBG.out Y (HA.out.below hb0)).mono ?_
 rintro e Y2 ⟨rfl,hb2⟩
 have hk2:=hk1.below hb2 hk1.lt
 have hf2:=hk0.below hb2 hk0.lt
 have hb3:=zAa hb0 hb2 hb0.size
 clear hk1 hk0 hb0 hb2 HBG
 by_cases h0:E=0
 ·subst h0
  have hS:=(zBY HE.out).1
  have HR:=Lib.hid (show rdE F.L F.re F.lo S=parE F.L S∧rdO F.L F.re F.lo S=parO F.L S by unfold rdE rdO;rw [HE.out];exact ⟨rfl,rfl⟩)
  have HPA:=Lib.hid (zGV F S Y2 (HA.out.below hb3) (by omega) (HT.out.below hb3))
  have v0:Y2.cell? ⟨w.heap.size,0,none⟩=some (.slice F.A F.n F.c):=(hf2.cell 0).trans rfl
  have v1:Y2.cell? ⟨w.heap.size,1,none⟩=some (.int .i64 F.re):=(hf2.cell 1).trans rfl
  have v2:Y2.cell? ⟨w.heap.size,2,none⟩=some (.int .i64 F.lo):=(hf2.cell 2).trans rfl
  clear hcs hS hf2
  go_wp2_with fail
  refine HPA.out.mono ?_
  rintro e Y3 ⟨B2,m2,d2,rfl,hrow,hm2,hb4⟩
  have HM2:=Lib.hid hm2
  have hk3:=hk2.below hb4 hk2.lt
  have hlt2:a1 < Y2.heap.size:=hk2.lt
  have hb5:=zAa hb3 hb4 hb3.size
  have HO:=Lib.hid HR.out.2
  obtain ⟨ov,eov⟩:∃x,parO F.L S=x:=⟨_,rfl⟩
  rw [eov] at hrow HM2 HO ⊢
  clear eov hm2
  obtain ⟨kk,ff,⟨gf,gl,gfar,gpc⟩,path,vov⟩:=ov
  have y0:Y3.cell? ⟨a1,0,none⟩=some (.int .i64 0):=(hk3.cell 0).trans rfl
  have yz0:=hk3.frozen 0
  have y1:Y3.cell? ⟨a1,1,none⟩=some (.int .i64 0):=(hk3.cell 1).trans rfl
  have yz1:=hk3.frozen 1
  have y2:Y3.cell? ⟨a1,2,none⟩=some (.int .i64 0):=(hk3.cell 2).trans rfl
  have yz2:=hk3.frozen 2
  have y3:Y3.cell? ⟨a1,3,none⟩=some (.int .i64 0):=(hk3.cell 3).trans rfl
  have yz3:=hk3.frozen 3
  have y4:Y3.cell? ⟨a1,4,none⟩=some (.bool false):=(hk3.cell 4).trans rfl
  have yz4:=hk3.frozen 4
  have y5:Y3.cell? ⟨a1,5,none⟩=some (.int .i64 0):=(hk3.cell 5).trans rfl
  have yz5:=hk3.frozen 5
  have y6:Y3.cell? ⟨a1,6,none⟩=some (.slice none 0 0):=(hk3.cell 6).trans rfl
  have yz6:=hk3.frozen 6
  have y7:Y3.cell? ⟨a1,7,none⟩=some (.bool false):=(hk3.cell 7).trans rfl
  have yz7:=hk3.frozen 7
  have SV:=Lib.hid (hk3.store8 (.int .i64 kk) (.int .i64 ff) (.int .i64 gf) (.int .i64 gl) (.bool gfar) (.int .i64 gpc) (.slice B2 m2 d2) (.bool vov))
  have BV:=Lib.hid (zAf hb5 HGE.out (.int .i64 kk) (.int .i64 ff) (.int .i64 gf) (.int .i64 gl) (.bool gfar) (.int .i64 gpc) (.slice B2 m2 d2) (.bool vov))
  have RV:=Lib.hid ((hrow.store8 hlt2 (.int .i64 kk) (.int .i64 ff) (.int .i64 gf) (.int .i64 gl) (.bool gfar) (.int .i64 gpc) (.slice B2 m2 d2) (.bool vov)).mono (Nat.le_trans HGE.out (Nat.le_of_lt hlt2)))
  have hER:=HR.out.1
  have HER:=Lib.hid hER
  clear hk2 hb3 hb4 hb5 hk3 hrow v0 v1 v2 HPA hER HR hlt2
  go_wp2_with fail
  exact zBj rfl rfl rfl SV.out Tryz.underlying32 rfl (by kernel_rfl) rfl (by rw [HER.out,HO.out];exact ⟨B2,m2,d2,rfl,RV.out,HM2.out,BV.out⟩)
 ·have HR:=Lib.hid (show rdE F.L F.re F.lo S=E∧rdO F.L F.re F.lo S=o0 by unfold rdE rdO;rw [HE.out,if_neg h0,if_neg h0];exact ⟨rfl,rfl⟩)
  have SZ:=Lib.hid (hk2.store8 (.int .i64 0) (.int .i64 0) (.int .i64 0) (.int .i64 0) (.bool false) (.int .i64 0) (.slice none 0 0) (.bool false))
  have BZ:=Lib.hid (zAf hb3 HGE.out (.int .i64 0) (.int .i64 0) (.int .i64 0) (.int .i64 0) (.bool false) (.int .i64 0) (.slice none 0 0) (.bool false))
  have y0:Y2.cell? ⟨a1,0,none⟩=some (.int .i64 0):=(hk2.cell 0).trans rfl
  have yz0:=hk2.frozen 0
  have y1:Y2.cell? ⟨a1,1,none⟩=some (.int .i64 0):=(hk2.cell 1).trans rfl
  have yz1:=hk2.frozen 1
  have y2:Y2.cell? ⟨a1,2,none⟩=some (.int .i64 0):=(hk2.cell 2).trans rfl
  have yz2:=hk2.frozen 2
  have y3:Y2.cell? ⟨a1,3,none⟩=some (.int .i64 0):=(hk2.cell 3).trans rfl
  have yz3:=hk2.frozen 3
  have y4:Y2.cell? ⟨a1,4,none⟩=some (.bool false):=(hk2.cell 4).trans rfl
  have yz4:=hk2.frozen 4
  have y5:Y2.cell? ⟨a1,5,none⟩=some (.int .i64 0):=(hk2.cell 5).trans rfl
  have yz5:=hk2.frozen 5
  have y6:Y2.cell? ⟨a1,6,none⟩=some (.slice none 0 0):=(hk2.cell 6).trans rfl
  have yz6:=hk2.frozen 6
  have y7:Y2.cell? ⟨a1,7,none⟩=some (.bool false):=(hk2.cell 7).trans rfl
  have yz7:=hk2.frozen 7
  rcases hcs.resolve_left h0 with rfl | rfl
  all_goals clear hk2 hb3 hf2 h0 hcs
  all_goals go_wp2_with fail
  all_goals exact zBj rfl rfl rfl SZ.out Tryz.underlying32 rfl (by kernel_rfl) rfl (by rw [HR.out.1,HR.out.2];exact ⟨none,0,0,rfl,Row.none_ _ _ _,rfl,BZ.out⟩)
end Go.Proofs.YtlmdfmnbcndhoaaGreatDoor
namespace Go.Proofs.YtlmdfmnbcndhoaaGreatDoor
open Go.RowKit
def nsOf (L:List Fg) (s:Sg):Nst:=⟨fa L (s.f-1).toNat,s.l,s.far,s.pc⟩
def npOf (L:List Fg) (x:Sp):Nst×Bool:=(nsOf L x.s,x.over)
def nOf (L:List Fg) (o:Og):Nop:=⟨o.kind,fa L (o.f-1).toNat,if o.fr.f=0 then none else some (nsOf L o.fr),o.path.map (npOf L),o.over⟩
section
variable {L:List Fg} {re lo:Int}
theorem frOk.idx (h:frOk L re lo) {f:Int} (h1:1≤f) (h2:f≤(L.length:Int)):idxF L (fa L (f-1).toNat)=f.toNat:=by
 have hi:(f-1).toNat < L.length:=by omega
 have:=h.2.2.2.2.2 _ hi
 unfold goodF at this
 simp only [Bool.and_eq_true,decide_eq_true_eq] at this
 rw [(idxF_take hi).1 this.2]
 omega
theorem fa_idx {f:Fg} (h:idxF L f≠0):fa L ((idxF L f:Int)-1).toNat=f:=by
 obtain ⟨i,hi⟩:∃i,idxF L f=i+1:=⟨idxF L f-1,by omega⟩
 have h2:=(idxF_is hi).1
 rw [show ((idxF L f:Int)-1).toNat=i by omega]
 exact fa_of h2
theorem zFa {k:Nat} {o:Og} (h1:1≤o.f) (h2:o.f≤(k:Int)) (hp:∀x∈o.path,zAK k x.s=true)
  (h:(o.kind=1∨o.kind=2∨o.kind=8)∧o.fr=s0∧o.path=[]∧o.over=false
   ∨ o.kind=4∧o.fr=s0∧o.path=[]
   ∨ o.kind=3∧zAK k o.fr=true∧o.over=false
   ∨ o.kind=5∧zAK k o.fr=true∧o.path=[]
   ∨ (o.kind=6∨o.kind=7)∧zAK k o.fr=true∧o.fr=⟨o.fr.f,0,false,0⟩∧o.path=[]):zAm k o=true:=by
 have h3:o.kind=3∨o.path=[]:=by
  rcases h with h | h | h | h | h
  ·exact .inr h.2.2.1
  ·exact .inr h.2.2
  ·exact .inl h.1
  ·exact .inr h.2.2
  ·exact .inr h.2.2.2
 have hr:zDx k o=true:=by
  unfold zDx
  rcases h with ⟨e,h,_,h'⟩ | ⟨e,h,_⟩ | ⟨e,h,h'⟩ | ⟨e,h,_⟩ | ⟨e,h,h',_⟩
  ·rw [if_pos e,h,h'];rfl
  ·rw [if_neg (by omega),if_pos e,h];rfl
  ·rw [if_neg (by omega),if_neg (by omega),if_pos e,h,h'];rfl
  ·rw [if_neg (by omega),if_neg (by omega),if_neg (by omega),if_pos e,h]
  ·rw [if_neg (by omega),if_neg (by omega),if_neg (by omega),if_neg (by omega),if_pos e,h,←h',sgB_iff.2 rfl];rfl
 unfold zAm
 rw [hr]
 simp only [Bool.and_eq_true,decide_eq_true_eq,Bool.or_eq_true,List.all_eq_true,and_true]
 exact ⟨⟨⟨h1,h2⟩,h3⟩,hp⟩
theorem s_ok {x:Nst} (h:zCG x) (hg:gone L x.f=false):zAK L.length (sOf L x)=true∧nsOf L (sOf L x)=x∧¬(sOf L x).f=0:=by
 have h0:idxF L x.f≠0:=by simpa [gone] using hg
 have hl:=zFp (f:=x.f) (L:=L)
 refine ⟨zAz.2 ⟨by simp only [sOf];omega,by simp only [sOf];omega,h.2.1,h.2.2.1,h.2.2.2.1,h.2.2.2.2⟩,?_,by simp only [sOf];omega⟩
 unfold nsOf sOf
 simp only
 rw [fa_idx h0]
theorem o_ok {n:Nop} (h:okN n) (hl:zAA L n=false):zAm L.length (oOf L n)=true∧nOf L (oOf L n)=n:=by
 obtain ⟨h1,h2⟩:=h
 unfold zAA at hl
 simp only [Bool.or_eq_false_iff] at hl
 obtain ⟨⟨l1,l2⟩,l3⟩:=hl
 have h0:idxF L n.f≠0:=by simpa [gone] using l1
 have hle:=zFp (f:=n.f) (L:=L)
 have hpath:∀y∈n.path,gone L y.1.f=false:=fun y hy=>by
  have:=(List.any_eq_false.1 l2) y hy
  simpa using this
 obtain ⟨kind,f,fr,path,over⟩:=n
 unfold okKind at h2
 simp only at h1 h2 l1 l3 h0 hle hpath
 have hpm:(∀y∈path,zCG y.1)→(path.map (pOf L)).map (npOf L)=path:=fun hp=>by
  rw [List.map_map]
  conv=>rhs;rw [←List.map_id path]
  refine List.map_congr_left fun x hx=>?_
  simp only [Function.comp,npOf,pOf,id]
  rw [(s_ok (hp x hx) (hpath x hx)).2.1]
 have hpn:(∀y∈path,zCG y.1)→∀x∈path.map (pOf L),zAK L.length x.s=true:=fun hp x hx=>by
  obtain ⟨y,hy,rfl⟩:=List.mem_map.1 hx
  exact (s_ok (hp y hy) (hpath y hy)).1
 rcases h2 with ⟨e,rfl,rfl,rfl⟩ | ⟨e,rfl,rfl⟩ | ⟨e,⟨x,rfl,hx⟩,hp,rfl⟩ | ⟨e,⟨x,rfl,hx⟩,rfl⟩ | ⟨e,⟨g,rfl,hx⟩,rfl⟩
 ·refine ⟨zFa (by simp only [oOf];omega) (by simp only [oOf];omega) (by simp [oOf]) (.inl ⟨e,rfl,rfl,rfl⟩),?_⟩
  unfold nOf oOf
  simp only [fa_idx h0]
  rfl
 ·refine ⟨zFa (by simp only [oOf];omega) (by simp only [oOf];omega) (by simp [oOf]) (.inr (.inl ⟨e,rfl,rfl⟩)),?_⟩
  unfold nOf oOf
  simp only [fa_idx h0]
  rfl
 ·obtain ⟨a1,a2,a3⟩:=s_ok hx l3
  refine ⟨zFa (by simp only [oOf];omega) (by simp only [oOf];omega) (hpn hp) (.inr (.inr (.inl ⟨e,a1,rfl⟩))),?_⟩
  unfold nOf oOf
  simp only [fa_idx h0,Option.map_some,Option.getD_some,if_neg a3,a2,hpm hp]
 ·obtain ⟨a1,a2,a3⟩:=s_ok hx l3
  refine ⟨zFa (by simp only [oOf];omega) (by simp only [oOf];omega) (by simp [oOf]) (.inr (.inr (.inr (.inl ⟨e,a1,rfl⟩)))),?_⟩
  unfold nOf oOf
  simp only [fa_idx h0,Option.map_some,Option.getD_some,if_neg a3,a2]
  rfl
 ·have hxo:zCG ⟨g,0,false,0⟩:=⟨hx,by simp,by simp,by simp,by simp⟩
  obtain ⟨a1,a2,a3⟩:=s_ok (L:=L) hxo l3
  refine ⟨zFa (by simp only [oOf];omega) (by simp only [oOf];omega) (by simp [oOf]) (.inr (.inr (.inr (.inr ⟨e,a1,rfl,rfl⟩)))),?_⟩
  unfold nOf oOf
  simp only [fa_idx h0,Option.map_some,Option.getD_some,if_neg a3,a2]
  rfl
end
end Go.Proofs.YtlmdfmnbcndhoaaGreatDoor
