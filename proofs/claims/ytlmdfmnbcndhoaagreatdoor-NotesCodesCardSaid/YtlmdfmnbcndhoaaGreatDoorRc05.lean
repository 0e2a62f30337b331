/-
  Lemmas, part 5. Conditions: each theorem's own.
-/
import Derived.Shelf.Strings.OnBuilder
import Derived.Shelf.Small.Strs
import Derived.Shelf.Small.Wraps
import Derived.Shelf.LaysM
import Derived.Shelf.Strconv.Itoa3
import Derived.Shelf.Strings.Cut
import Derived.Shelf.Strings.Shaped
import Derived.Shelf.Strings.Split
import Derived.Test.YtlmdfmnbcndhoaaGreatDoorProg
import Derived.Lib.ItoaNum
import Derived.Lib.ItoaLen
import Derived.Lib.AtoiAll
import Derived.Lib.IndexMore
import Derived.Lib.IndexLaws
import Derived.Test.YtlmdfmnbcndhoaaGreatDoorRc01
import Derived.Laws.IdiomStrings
import Derived.Lib.AppendIntMem
import Derived.Lib.AtoiErrMem
import Derived.StillTailTactics
import Derived.Laws.Concat
import Derived.Test.YtlmdfmnbcndhoaaGreatDoorRc04
open Option renaming none→U,some→Z
open Go.Value renaming bool→G,int→D,slice→H,string→W
open Go.IntKind renaming i64→J
open Bool renaming false→E,true→Q
namespace Go.Proofs
open Go.Shelf
def Tryz.lays169_ren:Go.Shelf.Ren:=⟨fun | 169=>61 | n=>n,fun | 70=>98 | 9=>9 | 0=>0 | 72=>101 | 37=>99 | 127=>163 | 3=>3 | 5=>5 | n=>n,fun | n=>n⟩
theorem Tryz.lays169:Go.Proofs.Lays.n169 Tryz.prog Tryz.lays169_ren:={
 mixed:=by kernel_rfl
 f169:=Tryz.func61.trans (congrArg Z (by kernel_rfl))
 t0:=Tryz.underlying0
 a0:=Tryz.isAgg0
 z0:=Tryz.sizeOf0
 v0:=Tryz.zeroValue0
 t3:=Tryz.underlying3
 a3:=Tryz.isAgg3
 z3:=Tryz.sizeOf3
 v3:=Tryz.zeroValue3
 t9:=Tryz.underlying9
 a9:=Tryz.isAgg9
 z9:=Tryz.sizeOf9
 v9:=Tryz.zeroValue9
 t37:=Tryz.underlying99
 a37:=Tryz.isAgg99
 z37:=Tryz.sizeOf99
 v37:=Tryz.zeroValue99
 t70:=Tryz.underlying98
 a70:=Tryz.isAgg98
 z70:=Tryz.sizeOf98
 v70:=Tryz.zeroValue98
 t72:=Tryz.underlying101
 a72:=Tryz.isAgg101
 z72:=Tryz.sizeOf101
 v72:=Tryz.zeroValue101
 t127:=Tryz.underlying163
 a127:=Tryz.isAgg163
 z127:=Tryz.sizeOf163
 v127:=Tryz.zeroValue163 }
theorem Tryz.Builder_Extra_169:Builder.Extra Tryz.prog Tryz.lays169_ren:={
 sizeBuilder:=by kernel_rfl
 liesBuilder:=by kernel_rfl
 t5:=Tryz.underlying5
 a5:=Tryz.isAgg5
 z5:=Tryz.sizeOf5
 v5:=Tryz.zeroValue5
 infoByte:=by kernel_rfl
 cellsByte:=by kernel_rfl
 sizeByte:=by kernel_rfl
 neB5:=by decide }
open Go.RowKit in
theorem Tryz.Builder_String_any (B b:Nat) (l:List UInt8) (w:World) (h:Lib.IsBuilder 101 5 B b (Lib.byteCells l) w) (hBw:B≤w.heap.size) :
  Calls Tryz.prog 61 #[.pointer (Z ⟨b,0,U⟩)] w fun e w'=>e=.returned (W ⟨l.toArray⟩)∧Below B w w':=Any.Builder_String_any Tryz.lays169 Tryz.Builder_Extra_169 B b l w h hBw
def Tryz.lays156_ren:Go.Shelf.Ren:=⟨fun | 156=>69 | 165=>117 | 166=>59 | 169=>61 | 240=>105 | 241=>158 | 276=>153 | 277=>187 | n=>n,fun | 31=>112 | 9=>9 | 3=>3 | 4=>4 | 0=>0 | 20=>20 | 72=>101 | 76=>104 | 70=>98 | 37=>99 | 75=>103 | 127=>163 | 164=>195 | 5=>5 | 80=>106 | n=>n,fun | n=>n⟩
theorem Tryz.lays156:Go.Proofs.Lays.n156 Tryz.prog Tryz.lays156_ren:={
 mixed:=by kernel_rfl
 f156:=Tryz.func69.trans (congrArg Z (by kernel_rfl))
 f165:=Tryz.func117.trans (congrArg Z (by kernel_rfl))
 f166:=Tryz.func59.trans (congrArg Z (by kernel_rfl))
 f169:=Tryz.func61.trans (congrArg Z (by kernel_rfl))
 f240:=Tryz.func105.trans (congrArg Z (by kernel_rfl))
 f241:=Tryz.func158.trans (congrArg Z (by kernel_rfl))
 f276:=Tryz.func153.trans (congrArg Z (by kernel_rfl))
 f277:=Tryz.func187.trans (congrArg Z (by kernel_rfl))
 t0:=Tryz.underlying0
 a0:=Tryz.isAgg0
 z0:=Tryz.sizeOf0
 v0:=Tryz.zeroValue0
 t3:=Tryz.underlying3
 a3:=Tryz.isAgg3
 z3:=Tryz.sizeOf3
 v3:=Tryz.zeroValue3
 t4:=Tryz.underlying4
 a4:=Tryz.isAgg4
 z4:=Tryz.sizeOf4
 v4:=Tryz.zeroValue4
 t9:=Tryz.underlying9
 a9:=Tryz.isAgg9
 z9:=Tryz.sizeOf9
 v9:=Tryz.zeroValue9
 t20:=Tryz.underlying20
 a20:=Tryz.isAgg20
 z20:=Tryz.sizeOf20
 v20:=Tryz.zeroValue20
 t31:=Tryz.underlying112
 a31:=Tryz.isAgg112
 z31:=Tryz.sizeOf112
 v31:=Tryz.zeroValue112
 t37:=Tryz.underlying99
 a37:=Tryz.isAgg99
 z37:=Tryz.sizeOf99
 v37:=Tryz.zeroValue99
 t70:=Tryz.underlying98
 a70:=Tryz.isAgg98
 z70:=Tryz.sizeOf98
 v70:=Tryz.zeroValue98
 t72:=Tryz.underlying101
 a72:=Tryz.isAgg101
 z72:=Tryz.sizeOf101
 v72:=Tryz.zeroValue101
 t75:=Tryz.underlying103
 a75:=Tryz.isAgg103
 z75:=Tryz.sizeOf103
 v75:=Tryz.zeroValue103
 t76:=Tryz.underlying104
 a76:=Tryz.isAgg104
 z76:=Tryz.sizeOf104
 v76:=Tryz.zeroValue104
 t127:=Tryz.underlying163
 a127:=Tryz.isAgg163
 z127:=Tryz.sizeOf163
 v127:=Tryz.zeroValue163
 t164:=Tryz.underlying195
 a164:=Tryz.isAgg195
 z164:=Tryz.sizeOf195
 v164:=Tryz.zeroValue195 }
theorem Tryz.Builder_Extra_156:Builder.Extra Tryz.prog Tryz.lays156_ren:={
 sizeBuilder:=by kernel_rfl
 liesBuilder:=by kernel_rfl
 t5:=Tryz.underlying5
 a5:=Tryz.isAgg5
 z5:=Tryz.sizeOf5
 v5:=Tryz.zeroValue5
 infoByte:=by kernel_rfl
 cellsByte:=by kernel_rfl
 sizeByte:=by kernel_rfl
 neB5:=by decide }
open Go.RowKit in
theorem Tryz.strings_Join_none (a:Option Addr) (c:Nat) (sep:ByteArray) (w:World) :
  Calls Tryz.prog 69 #[H a 0 c,W sep] w fun e w'=>e=.returned (W ⟨#[]⟩)∧w'=w:=Any.strings_Join_none Tryz.lays156 Tryz.Builder_Extra_156 a c sep w
open Go.RowKit in
theorem Tryz.strings_Join (bk o c:Nat) (xs:List ByteArray) (sep:ByteArray) (w:World) (hcells:∀(j:Nat) x,xs[j]? = Z x→w.cell? ⟨bk,o+j,U⟩=Z (W x)) (hbk:bk < w.heap.size) (hN:xs.length≤140737488355328) (hcap:xs.length≤c) (hlen:(Lib.join (xs.map (·.data.toList)) sep.data.toList).length≤140737488355328) :
  Calls Tryz.prog 69 #[H (Z ⟨bk,o,U⟩) xs.length c,W sep] w fun e w'=>e=.returned (W ⟨(Lib.join (xs.map (·.data.toList)) sep.data.toList).toArray⟩)∧Below w.heap.size w w':=Any.strings_Join Tryz.lays156 Tryz.Builder_Extra_156 bk o c xs sep w hcells hbk hN hcap hlen
def Tryz.lays137_ren:Go.Shelf.Ren:=⟨fun | 137=>161 | 217=>183 | 266=>202 | n=>n,fun | 9=>9 | 5=>5 | 3=>3 | n=>n,fun | n=>n⟩
theorem Tryz.lays137:Go.Proofs.Lays.n137 Tryz.prog Tryz.lays137_ren:={
 mixed:=by kernel_rfl
 f137:=Tryz.func161.trans (congrArg Z (by kernel_rfl))
 f217:=Tryz.func183.trans (congrArg Z (by kernel_rfl))
 f266:=Tryz.func202.trans (congrArg Z (by kernel_rfl))
 t3:=Tryz.underlying3
 a3:=Tryz.isAgg3
 z3:=Tryz.sizeOf3
 v3:=Tryz.zeroValue3
 t5:=Tryz.underlying5
 a5:=Tryz.isAgg5
 z5:=Tryz.sizeOf5
 v5:=Tryz.zeroValue5
 t9:=Tryz.underlying9
 a9:=Tryz.isAgg9
 z9:=Tryz.sizeOf9
 v9:=Tryz.zeroValue9 }
open Go.RowKit in
theorem Tryz.strings_IndexByte (s:ByteArray) (c:Int) (w:World) :
  Calls Tryz.prog 161 #[W s,D .u8 c] w fun e w'=>e=.returned (D J (Lib.indexByte s.data.toList c.toNat.toUInt8))∧w'=w:=Any.strings_IndexByte Tryz.lays137 s c w
def Tryz.lays104_ren:Go.Shelf.Ren:=⟨fun | 104=>145 | 211=>181 | 207=>201 | n=>n,fun | 9=>9 | 4=>4 | 24=>189 | 3=>3 | n=>n,fun | n=>n⟩
theorem Tryz.lays104:Go.Proofs.Lays.n104 Tryz.prog Tryz.lays104_ren:={
 mixed:=by kernel_rfl
 f104:=Tryz.func145.trans (congrArg Z (by kernel_rfl))
 f207:=Tryz.func201.trans (congrArg Z (by kernel_rfl))
 f211:=Tryz.func181.trans (congrArg Z (by kernel_rfl))
 t3:=Tryz.underlying3
 a3:=Tryz.isAgg3
 z3:=Tryz.sizeOf3
 v3:=Tryz.zeroValue3
 t4:=Tryz.underlying4
 a4:=Tryz.isAgg4
 z4:=Tryz.sizeOf4
 v4:=Tryz.zeroValue4
 t9:=Tryz.underlying9
 a9:=Tryz.isAgg9
 z9:=Tryz.sizeOf9
 v9:=Tryz.zeroValue9
 t24:=Tryz.underlying189
 a24:=Tryz.isAgg189
 z24:=Tryz.sizeOf189
 v24:=Tryz.zeroValue189 }
open Go.RowKit in
theorem Tryz.strings_CutSuffix (s p:ByteArray) (w:World) (hs:s.size≤9223372036854775807) :
  Calls Tryz.prog 145 #[W s,W p] w fun e w'=>e=.returned (.tuple #[W ⟨(Lib.trimSuffix s.data.toList p.data.toList).toArray⟩,G (Lib.hasSuffix s.data.toList p.data.toList)])∧w'=w:=Any.strings_CutSuffix Tryz.lays104 s p w hs
def Tryz.laysM171_ren:Go.Shelf.Ren:=⟨fun | 171=>124 | 243=>164 | 246=>191 | 283=>207 | 284=>208 | 285=>209 | 286=>210 | 129=>216 | 317=>215 | 318=>217 | 319=>218 | 320=>219 | 337=>220 | 338=>221 | n=>n,fun | 3=>3 | 9=>9 | 2=>2 | 4=>4 | 171=>234 | 0=>0 | 53=>235 | 37=>99 | 5=>5 | 173=>238 | 212=>242 | 51=>229 | 20=>20 | 213=>243 | 46=>218 | 232=>250 | 233=>251 | n=>n,fun | 17=>1 | 18=>4 | 19=>5 | n=>n⟩
theorem Tryz.laysM171:Go.Proofs.LaysM.n171 Tryz.prog Tryz.laysM171_ren:={
 mixed:=by kernel_rfl
 f129:=Tryz.func216.trans (congrArg Z (by kernel_rfl))
 f171:=Tryz.func124.trans (congrArg Z (by kernel_rfl))
 f243:=Tryz.func164.trans (congrArg Z (by kernel_rfl))
 f246:=Tryz.func191.trans (congrArg Z (by kernel_rfl))
 f283:=Tryz.func207.trans (congrArg Z (by kernel_rfl))
 f284:=Tryz.func208.trans (congrArg Z (by kernel_rfl))
 f285:=Tryz.func209.trans (congrArg Z (by kernel_rfl))
 f286:=Tryz.func210.trans (congrArg Z (by kernel_rfl))
 f317:=Tryz.func215.trans (congrArg Z (by kernel_rfl))
 f318:=Tryz.func217.trans (congrArg Z (by kernel_rfl))
 f319:=Tryz.func218.trans (congrArg Z (by kernel_rfl))
 f320:=Tryz.func219.trans (congrArg Z (by kernel_rfl))
 f337:=Tryz.func220.trans (congrArg Z (by kernel_rfl))
 f338:=Tryz.func221.trans (congrArg Z (by kernel_rfl))
 t0:=Tryz.underlying0
 a0:=Tryz.isAgg0
 z0:=Tryz.sizeOf0
 v0:=Tryz.zeroValue0
 t2:=Tryz.underlying2
 a2:=Tryz.isAgg2
 z2:=Tryz.sizeOf2
 v2:=Tryz.zeroValue2
 t3:=Tryz.underlying3
 a3:=Tryz.isAgg3
 z3:=Tryz.sizeOf3
 v3:=Tryz.zeroValue3
 t4:=Tryz.underlying4
 a4:=Tryz.isAgg4
 z4:=Tryz.sizeOf4
 v4:=Tryz.zeroValue4
 t5:=Tryz.underlying5
 a5:=Tryz.isAgg5
 z5:=Tryz.sizeOf5
 v5:=Tryz.zeroValue5
 t9:=Tryz.underlying9
 a9:=Tryz.isAgg9
 z9:=Tryz.sizeOf9
 v9:=Tryz.zeroValue9
 t20:=Tryz.underlying20
 a20:=Tryz.isAgg20
 z20:=Tryz.sizeOf20
 v20:=Tryz.zeroValue20
 t37:=Tryz.underlying99
 a37:=Tryz.isAgg99
 z37:=Tryz.sizeOf99
 v37:=Tryz.zeroValue99
 t46:=Tryz.underlying218
 a46:=Tryz.isAgg218
 z46:=Tryz.sizeOf218
 v46:=Tryz.zeroValue218
 t51:=Tryz.underlying229
 a51:=Tryz.isAgg229
 z51:=Tryz.sizeOf229
 v51:=Tryz.zeroValue229
 t53:=Tryz.underlying235
 a53:=Tryz.isAgg235
 z53:=Tryz.sizeOf235
 v53:=Tryz.zeroValue235
 t171:=Tryz.underlying234
 a171:=Tryz.isAgg234
 z171:=Tryz.sizeOf234
 v171:=Tryz.zeroValue234
 t173:=Tryz.underlying238
 a173:=Tryz.isAgg238
 z173:=Tryz.sizeOf238
 v173:=Tryz.zeroValue238
 t212:=Tryz.underlying242
 a212:=Tryz.isAgg242
 z212:=Tryz.sizeOf242
 v212:=Tryz.zeroValue242
 t213:=Tryz.underlying243
 a213:=Tryz.isAgg243
 z213:=Tryz.sizeOf243
 t232:=Tryz.underlying250
 a232:=Tryz.isAgg250
 z232:=Tryz.sizeOf250
 v232:=Tryz.zeroValue250
 t233:=Tryz.underlying251
 a233:=Tryz.isAgg251
 z233:=Tryz.sizeOf251
 v233:=Tryz.zeroValue251
 g17:=by kernel_rfl
 g18:=by kernel_rfl
 g19:=by kernel_rfl
 i0:=by kernel_rfl
 i2:=by kernel_rfl
 i3:=by kernel_rfl
 i4:=by kernel_rfl
 i5:=by kernel_rfl
 i9:=by kernel_rfl
 i20:=by kernel_rfl
 i37:=by kernel_rfl
 i46:=by kernel_rfl
 i51:=by kernel_rfl
 i53:=by kernel_rfl
 i171:=by kernel_rfl
 i173:=by kernel_rfl
 i212:=by kernel_rfl
 i232:=by kernel_rfl
 i233:=by kernel_rfl
 m17:=by kernel_rfl
 m18:=by kernel_rfl
 m19:=by kernel_rfl }
open Go.RowKit Go.Sort Go.Lib in
theorem Tryz.strconv_Itoa (n : Int) (h0 : -9223372036854775808 ≤ n) (h1 : n ≤ 9223372036854775807) (w : World) (htab : Lib.TabIs Tryz.prog w "internal/strconv.uint64pow10" .u64 Lib.pow10Tab) :
  Calls Tryz.prog 124 #[D J n] w fun e w'=>e=.returned (W ⟨(Lib.itoa n).toArray⟩)∧∃k os,w'=grow (w.drewN k) os:=Any.strconv_Itoa Tryz.laysM171 n h0 h1 w htab
def Tryz.lays171_ren:Go.Shelf.Ren:=⟨fun | 171=>124 | 243=>164 | 246=>191 | 283=>207 | 284=>208 | 285=>209 | 286=>210 | 129=>216 | 317=>215 | 318=>217 | 319=>218 | 320=>219 | 337=>220 | 338=>221 | n=>n,fun | 3=>3 | 9=>9 | 2=>2 | 4=>4 | 171=>234 | 0=>0 | 53=>235 | 37=>99 | 5=>5 | 173=>238 | 212=>242 | 51=>229 | 20=>20 | 213=>243 | 46=>218 | 232=>250 | 233=>251 | n=>n,fun | 17=>1 | 18=>4 | 19=>5 | n=>n⟩
theorem Tryz.lays171:Go.Proofs.Lays.n171 Tryz.prog Tryz.lays171_ren:={
 mixed:=by kernel_rfl
 f129:=Tryz.func216.trans (congrArg Z (by kernel_rfl))
 f171:=Tryz.func124.trans (congrArg Z (by kernel_rfl))
 f243:=Tryz.func164.trans (congrArg Z (by kernel_rfl))
 f246:=Tryz.func191.trans (congrArg Z (by kernel_rfl))
 f283:=Tryz.func207.trans (congrArg Z (by kernel_rfl))
 f284:=Tryz.func208.trans (congrArg Z (by kernel_rfl))
 f285:=Tryz.func209.trans (congrArg Z (by kernel_rfl))
 f286:=Tryz.func210.trans (congrArg Z (by kernel_rfl))
 f317:=Tryz.func215.trans (congrArg Z (by kernel_rfl))
 f318:=Tryz.func217.trans (congrArg Z (by kernel_rfl))
 f319:=Tryz.func218.trans (congrArg Z (by kernel_rfl))
 f320:=Tryz.func219.trans (congrArg Z (by kernel_rfl))
 f337:=Tryz.func220.trans (congrArg Z (by kernel_rfl))
 f338:=Tryz.func221.trans (congrArg Z (by kernel_rfl))
 t0:=Tryz.underlying0
 a0:=Tryz.isAgg0
 z0:=Tryz.sizeOf0
 v0:=Tryz.zeroValue0
 t2:=Tryz.underlying2
 a2:=Tryz.isAgg2
 z2:=Tryz.sizeOf2
 v2:=Tryz.zeroValue2
 t3:=Tryz.underlying3
 a3:=Tryz.isAgg3
 z3:=Tryz.sizeOf3
 v3:=Tryz.zeroValue3
 t4:=Tryz.underlying4
 a4:=Tryz.isAgg4
 z4:=Tryz.sizeOf4
 v4:=Tryz.zeroValue4
 t5:=Tryz.underlying5
 a5:=Tryz.isAgg5
 z5:=Tryz.sizeOf5
 v5:=Tryz.zeroValue5
 t9:=Tryz.underlying9
 a9:=Tryz.isAgg9
 z9:=Tryz.sizeOf9
 v9:=Tryz.zeroValue9
 t20:=Tryz.underlying20
 a20:=Tryz.isAgg20
 z20:=Tryz.sizeOf20
 v20:=Tryz.zeroValue20
 t37:=Tryz.underlying99
 a37:=Tryz.isAgg99
 z37:=Tryz.sizeOf99
 v37:=Tryz.zeroValue99
 t46:=Tryz.underlying218
 a46:=Tryz.isAgg218
 z46:=Tryz.sizeOf218
 v46:=Tryz.zeroValue218
 t51:=Tryz.underlying229
 a51:=Tryz.isAgg229
 z51:=Tryz.sizeOf229
 v51:=Tryz.zeroValue229
 t53:=Tryz.underlying235
 a53:=Tryz.isAgg235
 z53:=Tryz.sizeOf235
 v53:=Tryz.zeroValue235
 t171:=Tryz.underlying234
 a171:=Tryz.isAgg234
 z171:=Tryz.sizeOf234
 v171:=Tryz.zeroValue234
 t173:=Tryz.underlying238
 a173:=Tryz.isAgg238
 z173:=Tryz.sizeOf238
 v173:=Tryz.zeroValue238
 t212:=Tryz.underlying242
 a212:=Tryz.isAgg242
 z212:=Tryz.sizeOf242
 v212:=Tryz.zeroValue242
 t213:=Tryz.underlying243
 a213:=Tryz.isAgg243
 z213:=Tryz.sizeOf243
 t232:=Tryz.underlying250
 a232:=Tryz.isAgg250
 z232:=Tryz.sizeOf250
 v232:=Tryz.zeroValue250
 t233:=Tryz.underlying251
 a233:=Tryz.isAgg251
 z233:=Tryz.sizeOf251
 v233:=Tryz.zeroValue251
 g17:=by kernel_rfl
 g18:=by kernel_rfl
 g19:=by kernel_rfl }
open Go.RowKit Go.Sort Go.Lib in
theorem Tryz.strconv_Itoa_small (i:Nat) (hi:i < 100) (w:World) :
  Calls Tryz.prog 124 #[D J i] w fun e w'=>e=.returned (W ⟨(Lib.decDigits i).toArray⟩)∧w'=w:=Any.strconv_Itoa_small Tryz.lays171 i hi w
def Tryz.lays145_ren:Go.Shelf.Ren:=⟨fun | 145=>62 | 220=>110 | 219=>156 | 217=>183 | 225=>184 | 224=>185 | 267=>186 | 266=>202 | 314=>203 | n=>n,fun | 9=>9 | 4=>4 | 59=>107 | 3=>3 | 5=>5 | 46=>218 | 146=>230 | 51=>229 | n=>n,fun | 1=>0 | n=>n⟩
theorem Tryz.lays145:Go.Proofs.Lays.n145 Tryz.prog Tryz.lays145_ren:={
 mixed:=by kernel_rfl
 f145:=Tryz.func62.trans (congrArg Z (by kernel_rfl))
 f217:=Tryz.func183.trans (congrArg Z (by kernel_rfl))
 f219:=Tryz.func156.trans (congrArg Z (by kernel_rfl))
 f220:=Tryz.func110.trans (congrArg Z (by kernel_rfl))
 f224:=Tryz.func185.trans (congrArg Z (by kernel_rfl))
 f225:=Tryz.func184.trans (congrArg Z (by kernel_rfl))
 f266:=Tryz.func202.trans (congrArg Z (by kernel_rfl))
 f267:=Tryz.func186.trans (congrArg Z (by kernel_rfl))
 f314:=Tryz.func203.trans (congrArg Z (by kernel_rfl))
 t3:=Tryz.underlying3
 a3:=Tryz.isAgg3
 z3:=Tryz.sizeOf3
 v3:=Tryz.zeroValue3
 t4:=Tryz.underlying4
 a4:=Tryz.isAgg4
 z4:=Tryz.sizeOf4
 v4:=Tryz.zeroValue4
 t5:=Tryz.underlying5
 a5:=Tryz.isAgg5
 z5:=Tryz.sizeOf5
 v5:=Tryz.zeroValue5
 t9:=Tryz.underlying9
 a9:=Tryz.isAgg9
 z9:=Tryz.sizeOf9
 v9:=Tryz.zeroValue9
 t46:=Tryz.underlying218
 a46:=Tryz.isAgg218
 z46:=Tryz.sizeOf218
 v46:=Tryz.zeroValue218
 t51:=Tryz.underlying229
 a51:=Tryz.isAgg229
 z51:=Tryz.sizeOf229
 v51:=Tryz.zeroValue229
 t59:=Tryz.underlying107
 a59:=Tryz.isAgg107
 z59:=Tryz.sizeOf107
 v59:=Tryz.zeroValue107
 t146:=Tryz.underlying230
 a146:=Tryz.isAgg230
 z146:=Tryz.sizeOf230
 v146:=Tryz.zeroValue230
 g1:=by kernel_rfl }
open Go.RowKit Go.Lib in
theorem Tryz.strings_Cut (s sep:ByteArray) (m:Int) (w:World) (hs:s.size < 4294967281) (hm:w.cell? ⟨0,0,U⟩=Z (D J m)) :
  Calls Tryz.prog 62 #[W s,W sep] w fun e w'=>e=.returned (.tuple #[W ⟨(Lib.cut s.data.toList sep.data.toList).1.toArray⟩,W ⟨(Lib.cut s.data.toList sep.data.toList).2.1.toArray⟩,G (Lib.cut s.data.toList sep.data.toList).2.2])∧∃n,w'=w.drewN n:=Any.strings_Cut Tryz.lays145 s sep m w hs hm
def Tryz.lays146_ren:Go.Shelf.Ren:=⟨fun | 146=>119 | 221=>159 | 268=>188 | 138=>189 | 143=>190 | 195=>204 | 197=>205 | 218=>206 | 219=>156 | 260=>214 | 217=>183 | 225=>184 | 224=>185 | 267=>186 | 266=>202 | 314=>203 | n=>n,fun | 9=>9 | 31=>112 | 3=>3 | 4=>4 | 0=>0 | 105=>232 | 21=>21 | 5=>5 | 46=>218 | 119=>245 | 139=>248 | 138=>247 | 146=>230 | 51=>229 | n=>n,fun | 1=>0 | 3=>2 | 4=>3 | n=>n⟩
theorem Tryz.lays146:Go.Proofs.Lays.n146 Tryz.prog Tryz.lays146_ren:={
 mixed:=by kernel_rfl
 f138:=Tryz.func189.trans (congrArg Z (by kernel_rfl))
 f143:=Tryz.func190.trans (congrArg Z (by kernel_rfl))
 f146:=Tryz.func119.trans (congrArg Z (by kernel_rfl))
 f195:=Tryz.func204.trans (congrArg Z (by kernel_rfl))
 f197:=Tryz.func205.trans (congrArg Z (by kernel_rfl))
 f217:=Tryz.func183.trans (congrArg Z (by kernel_rfl))
 f218:=Tryz.func206.trans (congrArg Z (by kernel_rfl))
 f219:=Tryz.func156.trans (congrArg Z (by kernel_rfl))
 f221:=Tryz.func159.trans (congrArg Z (by kernel_rfl))
 f224:=Tryz.func185.trans (congrArg Z (by kernel_rfl))
 f225:=Tryz.func184.trans (congrArg Z (by kernel_rfl))
 f260:=Tryz.func214.trans (congrArg Z (by kernel_rfl))
 f266:=Tryz.func202.trans (congrArg Z (by kernel_rfl))
 f267:=Tryz.func186.trans (congrArg Z (by kernel_rfl))
 f268:=Tryz.func188.trans (congrArg Z (by kernel_rfl))
 f314:=Tryz.func203.trans (congrArg Z (by kernel_rfl))
 t0:=Tryz.underlying0
 a0:=Tryz.isAgg0
 z0:=Tryz.sizeOf0
 v0:=Tryz.zeroValue0
 t3:=Tryz.underlying3
 a3:=Tryz.isAgg3
 z3:=Tryz.sizeOf3
 v3:=Tryz.zeroValue3
 t4:=Tryz.underlying4
 a4:=Tryz.isAgg4
 z4:=Tryz.sizeOf4
 v4:=Tryz.zeroValue4
 t5:=Tryz.underlying5
 a5:=Tryz.isAgg5
 z5:=Tryz.sizeOf5
 v5:=Tryz.zeroValue5
 t9:=Tryz.underlying9
 a9:=Tryz.isAgg9
 z9:=Tryz.sizeOf9
 v9:=Tryz.zeroValue9
 t21:=Tryz.underlying21
 a21:=Tryz.isAgg21
 z21:=Tryz.sizeOf21
 v21:=Tryz.zeroValue21
 t31:=Tryz.underlying112
 a31:=Tryz.isAgg112
 z31:=Tryz.sizeOf112
 v31:=Tryz.zeroValue112
 t46:=Tryz.underlying218
 a46:=Tryz.isAgg218
 z46:=Tryz.sizeOf218
 v46:=Tryz.zeroValue218
 t51:=Tryz.underlying229
 a51:=Tryz.isAgg229
 z51:=Tryz.sizeOf229
 v51:=Tryz.zeroValue229
 t105:=Tryz.underlying232
 a105:=Tryz.isAgg232
 z105:=Tryz.sizeOf232
 v105:=Tryz.zeroValue232
 t119:=Tryz.underlying245
 a119:=Tryz.isAgg245
 z119:=Tryz.sizeOf245
 t138:=Tryz.underlying247
 a138:=Tryz.isAgg247
 z138:=Tryz.sizeOf247
 v138:=Tryz.zeroValue247
 t139:=Tryz.underlying248
 a139:=Tryz.isAgg248
 z139:=Tryz.sizeOf248
 v139:=Tryz.zeroValue248
 t146:=Tryz.underlying230
 a146:=Tryz.isAgg230
 z146:=Tryz.sizeOf230
 v146:=Tryz.zeroValue230
 g1:=by kernel_rfl
 g3:=by kernel_rfl
 g4:=by kernel_rfl }
open Go.RowKit Go.Lib in
theorem Tryz.strings_Split (s sep:ByteArray) (m:Int) (w:World) (hs:s.size < 4294967281) (hm:w.cell? ⟨0,0,U⟩=Z (D J m)) (h1:1≤sep.size) :
  Calls Tryz.prog 119 #[W s,W sep] w fun e w' =>
   e=.returned (H (Z ⟨w.heap.size,0,U⟩) (Lib.countB s sep+1) (Lib.countB s sep+1))∧w'=w.alloc (.cells ((Lib.splitB sep 0 (Lib.countB s sep) s).map Value.string).toArray 9):=Any.strings_Split Tryz.lays146 (by kernel_rfl) s sep m w hs hm h1
end Go.Proofs
namespace Go.Proofs.YtlmdfmnbcndhoaaGreatDoor
open Go
theorem zFf {d:Nat} (h:d < 10):(UInt8.ofNat (48+d)).toNat=48+d:=by
 rw [UInt8.toNat_ofNat'];omega
theorem zGs (u:Nat):Lib.decDigits u≠[]:=by
 rw [Lib.decDigits];split
 ·simp
 ·simp
theorem zDr (u:Nat):∀b∈Lib.decDigits u,48≤b.toNat∧b.toNat≤57:=by
 induction u using Nat.strongRecOn with
 | _ u ih =>
  intro b hb;rw [Lib.decDigits] at hb;split at hb
  ·rename_i h;simp only [List.mem_singleton] at hb;rw [hb,zFf h];omega
  ·rename_i h;rcases List.mem_append.1 hb with hb | hb
   ·exact ih (u / 10) (by omega) b hb
   ·simp only [List.mem_singleton] at hb;rw [hb,zFf (by omega)];omega
theorem zMu {x:Int}:∀b∈Lib.itoa x,b.toNat=45∨(48≤b.toNat∧b.toNat≤57):=by
 intro b hb;unfold Lib.itoa at hb;split at hb
 ·rcases List.mem_cons.1 hb with rfl | hb
  ·exact .inl (by decide)
  ·exact .inr (zDr _ b hb)
 ·exact .inr (zDr _ b hb)
theorem zIY {x:Int} {b:UInt8} (h:b.toNat≠45∧(b.toNat < 48∨57 < b.toNat)):b ∉ Lib.itoa x:=fun hb=>by
 rcases zMu b hb with h1 | h1<;>omega
theorem zOQ {c:UInt8} {r:List UInt8}:∀{h:List UInt8},c ∉ h→Lib.indexByte (h++c :: r) c=(h.length:Int)
 | [],_=>by simp [Lib.indexByte]
 | b :: h,hc=>by
  have h1:c ∉ h:=fun e=>hc (List.mem_cons_of_mem _ e)
  have h2:b≠c:=fun e=>hc (by rw [e];exact List.mem_cons_self ..)
  rw [List.cons_append];unfold Lib.indexByte;rw [zOQ h1,if_neg (by simpa using h2),if_neg (by simp)];simp
theorem zOR {c:UInt8}:∀{h:List UInt8},c ∉ h→Lib.indexByte h c = -1
 | [],_=>rfl
 | b :: h,hc=>by
  have h1:c ∉ h:=fun e=>hc (List.mem_cons_of_mem _ e)
  have h2:b≠c:=fun e=>hc (by rw [e];exact List.mem_cons_self ..)
  unfold Lib.indexByte;rw [zOR h1,if_neg (by simpa using h2)];rfl
theorem zOS {h r:List UInt8} {c:UInt8} (hc:c ∉ h):Lib.cut (h++c :: r) [c]=(h,r,Q):=by
 unfold Lib.cut;rw [Lib.index_one,zOQ hc,if_pos (by omega)];simp
theorem zOT {s:List UInt8} {c:UInt8} (hc:c ∉ s):Lib.cut s [c]=(s,[],E):=by
 unfold Lib.cut;rw [Lib.index_one,zOR hc,if_neg (by omega)]
end Go.Proofs.YtlmdfmnbcndhoaaGreatDoor
namespace Go.Proofs.YtlmdfmnbcndhoaaGreatDoor
open Go.RowKit
def bA (l:List UInt8):ByteArray:=⟨l.toArray⟩
theorem zDM (l:List UInt8):(bA l).data.toList=l:=by simp [bA]
theorem zAP (l:List UInt8):(bA l).size=l.length:=by simp [bA,ByteArray.size]
theorem zKj (a b:List UInt8):bA a++bA b=bA (a++b):=by
 apply ByteArray.ext;simp [bA]
theorem zXw (s:ByteArray):bA s.data.toList=s:=by cases s;simp [bA]
structure Tabs (w:World):Prop where
 pow : Lib.TabIs Tryz.prog w "internal/strconv.uint64pow10" .u64 Lib.pow10Tab
 most:∃m,w.cell? ⟨0,0,U⟩=Z (D J m)
theorem zOU {P:Program} {w w':World} {nm:String} {cs:Array Value} (h:w.var? P nm=Z cs) (hb:Below w.heap.size w w'):w'.var? P nm=Z cs:=by
 unfold World.var? at h ⊢;obtain ⟨g,hg,h2⟩:=Option.bind_eq_some_iff.1 h;rw [hg];have hlt:g < w.heap.size:=by
  rcases Nat.lt_or_ge g w.heap.size with h3 | h3
  ·exact h3
  ·rw [Array.getElem?_eq_none h3] at h2;cases h2
 show (match w'.heap[g]? with | some (.cells cs _ _)=>Z cs | _=>U)=Z cs;rw [hb.block g hlt];exact h2
theorem Tabs.below {w w':World} (h:Tabs w) (hb:Below w.heap.size w w'):Tabs w':=by
 obtain ⟨h1,⟨m,h2⟩⟩:=h;exact ⟨zOU h1 hb,⟨m,(hb.cell (World.block_lt_of_cell? w _ h2)).trans h2⟩⟩
theorem zIZ (x:Int) (hx:I64 x) (w:World) (ht:Tabs w):Calls Tryz.prog 124 #[D J x] w fun e w'=>e=.returned (W (bA (Lib.itoa x)))∧Below w.heap.size w w':=by
 refine (Tryz.strconv_Itoa x hx.1 hx.2 w ht.pow).mono ?_;rintro e w' ⟨rfl,k,os,rfl⟩;exact ⟨rfl,Lib.below_grow _ _ (Nat.le_refl _) _ _⟩
end Go.Proofs.YtlmdfmnbcndhoaaGreatDoor
namespace Go.Proofs.YtlmdfmnbcndhoaaGreatDoor
open Go.RowKit
theorem zAD (l:List UInt8):(bA l).toList=l:=by
 rw [Lib.toList_data];exact zDM l
theorem zCj (a b:List UInt8):((bA a).toList==(bA b).toList)=(a==b):=by rw [zAD,zAD]
end Go.Proofs.YtlmdfmnbcndhoaaGreatDoor
namespace Go.Proofs.YtlmdfmnbcndhoaaGreatDoor
open Go.RowKit
theorem zAx (a b:List UInt8) (ha:a.length≤100000) (hb:b.length≤100000):∀w,(Op.stringOp .add (bA a) (bA b)).run Tryz.prog w=.ok (W (bA (a++b))) w:=fun w=>by
 rw [run_string_add_sum w (bA a) (bA b) (by rw [zAP,zAP];omega),zKj]
theorem zHj {u:Nat} (hu:u < 9223372036854775808):(Lib.decDigits u).length≤21:=by
 have:=Lib.itoa_length_le (u:Int) (by omega) (by omega);unfold Lib.itoa at this;rw [if_neg (by omega)] at this;simpa using this
theorem zFS {u:Nat} (h:u < 10):Lib.decDigits u=[UInt8.ofNat (48+u)]:=by rw [Lib.decDigits,dif_pos h]
theorem zLv {u:Nat} (h:¬u < 10):Lib.decDigits u=Lib.decDigits (u / 10)++Lib.decDigits (u % 10):=by
 conv=>lhs;rw [Lib.decDigits]
 rw [dif_neg h,zFS (u:=u % 10) (by omega)]
theorem zRE (u:Nat) (h:u < 10) (w:World):(convert 99 9 (H (Z ⟨w.heap.size,0,U⟩) 1 1)).run Tryz.prog (w.alloc (.cells #[D .u8 (48+(u:Int))] 5))=.ok (W (bA (Lib.decDigits u))) (w.alloc (.cells #[D .u8 (48+(u:Int))] 5)):=by
 rw [zFS h]
 exact run_convert_bytes_back _ _ _ _ ⟨w.heap.size,0,U⟩ 1 [UInt8.ofNat (48+u)] Tryz.underlying99 Tryz.underlying5 Tryz.underlying9 (fun j hj=>by
  have:j=0:=by simpa using hj
  subst this
  rw [Addr.add_lit,World.cell?_alloc_at _ _ _ _ rfl]
  simp
  omega)
set_option maxHeartbeats 1600000 in
theorem zOV (u:Nat):u < 9223372036854775808→∀w:World,Calls Tryz.prog 127 #[D J (u:Int)] w fun e w'=>e=.returned (W (bA (Lib.decDigits u)))∧Below w.heap.size w w':=by
 induction u using Nat.strongRecOn with
 | _ u ih =>
  intro hu w;have i0:decide ((u:Int) < 0)=E:=by simp
  by_cases h:u < 10
  ·have hc:=zRE u h;have i1:(u:Int) < 10:=by omega
   have i2:IntKind.i64.wrap (48+(u:Int))=48+(u:Int):=IntWalk.i64_in _ (by omega);have i3:IntKind.u8.wrap (48+(u:Int))=48+(u:Int):=by unfold IntKind.wrap;simp [IntKind.signed,IntKind.bits];omega
   clear ih;go_enter Tryz.func127,Tryz.ntmps127;go_wp2_with fail
   go_ret;exact ⟨rfl,(Below.refl _ _).alloc (Nat.le_refl _) _⟩
  ·obtain ⟨a,ha⟩:∃a,a=u / 10:=⟨_,rfl⟩
   obtain ⟨b,hb⟩:∃b,b=u % 10:=⟨_,rfl⟩
   have q1:(u:Int) / 10=(a:Int):=by omega
   have q2:(u:Int) % 10=(b:Int):=by omega
   have i1:decide ((u:Int) < 10)=E:=by simp;omega
   have i5:IntKind.i64.wrap (a:Int)=(a:Int):=IntWalk.i64_in _ (by omega);have i6:IntKind.i64.wrap (b:Int)=(b:Int):=IntWalk.i64_in _ (by omega);have hA:=qH (ih a (by omega) (by omega));have hB:=qH (ih b (by omega) (by omega));have hd:=zLv h;rw [←ha,←hb] at hd;have la:=zHj (u:=a) (by omega);have lb:=zHj (u:=b) (by omega);have hs:=zAx (Lib.decDigits a) (Lib.decDigits b) (by omega) (by omega);have HD:=qH hd;clear ih hd ha hb h;go_enter Tryz.func127,Tryz.ntmps127;go_wp2_with fail
   refine (hA.out _).mono ?_;rintro e w1 ⟨rfl,ah⟩;go_wp2_with fail
   refine (hB.out _).mono ?_;rintro e w2 ⟨rfl,ab⟩;have ac:=ah.trans (ab.mono ah.size);go_wp2_with fail
   go_ret;exact ⟨by rw [HD.out];rfl,ac⟩
set_option maxHeartbeats 1600000 in
theorem zLw (x:Int) (hx:I64 x) (w:World):Calls Tryz.prog 127 #[D J x] w fun e w'=>e=.returned (W (bA (Lib.itoa x)))∧Below w.heap.size w w':=by
 by_cases h:x < 0
 ·have i0:decide (x < 0)=Q:=by simpa using h
  have hi:Lib.itoa x=45 :: Lib.decDigits x.natAbs:=by unfold Lib.itoa;rw [if_pos h]
  by_cases hm:x = -9223372036854775808
  ·subst hm;have EI:bA (Lib.itoa (-9223372036854775808))=⟨#[45,57,50,50,51,51,55,50,48,51,54,56,53,52,55,55,53,56,48,56]⟩:=by kernel_rfl
   have i3:wrap64 9223372036854775808 = -9223372036854775808:=by unfold wrap64;omega
   have HI:=qH EI;clear hi EI h;go_enter Tryz.func127,Tryz.ntmps127;go_wp2_with fail
   go_ret;exact ⟨by rw [HI.out];rfl,Below.refl _ _⟩
  ·obtain ⟨u,hu⟩:∃u:Nat,-x=(u:Int):=⟨x.natAbs,by omega⟩
   have yR:x.natAbs=u:=by omega
   rw [yR] at hi;have hlt:u < 9223372036854775808:=by have:=hx.1;omega
   have hU:=qH (zOV u hlt);have l1:=zHj hlt;have hs:=zAx [45] (Lib.decDigits u) (by simp) (by omega);have i1:IntKind.i64.wrap (u:Int)=(u:Int):=IntWalk.i64_in _ (by omega);have i2:(x==(u:Int))=E:=by simp;omega
   have HI:=qH hi;have hb:bA [45]=⟨#[45]⟩:=rfl;rw [hb] at hs;clear hi hm h yR hb;go_enter Tryz.func127,Tryz.ntmps127;go_wp2_with fail
   refine (hU.out _).mono ?_;rintro e w1 ⟨rfl,ah⟩;go_wp2_with fail
   go_ret;exact ⟨by rw [HI.out];rfl,ah⟩
 ·obtain ⟨u,rfl⟩:∃u:Nat,x=(u:Int):=⟨x.toNat,by omega⟩
  have:=zOV u (by have:=hx.2;omega) w;have hi:Lib.itoa (u:Int)=Lib.decDigits u:=by unfold Lib.itoa;rw [if_neg h];simp
  rw [hi];exact this
set_option maxHeartbeats 1600000 in
theorem zBL (x:Int) (hx:I64 x) (w:World):Calls Tryz.prog 78 #[D J x] w fun e w'=>e=.returned (W (bA (Lib.itoa x)))∧Below w.heap.size w w':=by
 have HK:=qH (zLw x hx w);go_enter Tryz.func78,Tryz.ntmps78;go_wp2_with fail
 refine HK.out.mono ?_;rintro e w1 ⟨rfl,ah⟩;go_wp2_with fail
 go_ret;exact ⟨rfl,ah⟩
end Go.Proofs.YtlmdfmnbcndhoaaGreatDoor
namespace Go.Proofs.YtlmdfmnbcndhoaaGreatDoor
open Go.RowKit
set_option maxHeartbeats 1600000 in
theorem zIx (A:Option Addr) (n c:Nat) (L:List Fg) (re lo:Int) (f:Fg) (w:World) (hA:Fgs w A n L) :
  Calls Tryz.prog 53 #[.agg #[H A n c,D J re,D J lo],fgV f] w fun e w'=>e=.returned (D J (zAM L f:Int))∧Below w.heap.size w w':=by
 have hle:=hA.le;have HL:=qH hA.len;have aa:Below w.heap.size w ((w.alloc (.cells #[H A n c,D J re,D J lo] 24)).alloc (.cells #[D J f.p,G f.r,D J f.d] 90)):=((Below.refl _ _).alloc (Nat.le_refl _) _).alloc (by simp) _;have ag:Blk ((w.alloc (.cells #[H A n c,D J re,D J lo] 24)).alloc (.cells #[D J f.p,G f.r,D J f.d] 90)) (w.heap.size+1) 90 #[D J f.p,G f.r,D J f.d]:=heap_alloc2_new w _ _;have hk0:=(Blk.new w 24 #[H A n c,D J re,D J lo]).alloc (.cells #[D J f.p,G f.r,D J f.d] 90);go_enter Tryz.func53,Tryz.ntmps53;go_wp2_with fail
 generalize (w.alloc (.cells #[H A n c,D J re,D J lo] 24)).alloc (.cells #[D J f.p,G f.r,D J f.d] 90)=ZR at aa hk0 ag ⊢;go_loopw [5] (fun v wr=>∃i:Nat,i≤n∧v=D J i∧Below ZR.heap.size ZR wr∧Hid (∀j:Nat,j < i→L[j]?≠Z f)) (fun v _=>n-(intOf v).toNat)
 case atStart=>exact ⟨0,Nat.zero_le _,rfl,Below.refl _ _,qH (fun j hj=>by omega)⟩
 case round =>
  obtain ⟨i,hi,rfl,hbr,HS⟩:=hrel;have hkr:=ag.below hbr ag.lt;obtain ⟨e0,e1,e2⟩:=cQ3 hkr;have e3:wr.cell? ⟨w.heap.size,0,U⟩=Z (H A n c):=((hk0.below hbr hk0.lt).cell 0).trans rfl;have hbw:=zAa aa hbr aa.size;by_cases hlt:i < n
  ·obtain ⟨g,o,rfl,hg,⟨x0,x1,x2⟩,_⟩:=(hA.below hbw).at_ hlt;have i0:(0:Int)≤(i:Int):=by omega
   have i1:(i:Int) < (n:Int):=by omega
   have heq:=fun w=>eqFg (fa L i) f w
   have hget:=zKa (L:=L) (i:=i) (by rw [HL.out];exact hlt)
   cases hq:fgB (fa L i) f with
   | true =>
    have hr:=qH (show zAM L f=i+1 from zHd (by rw [hget,zLk.1 hq]) HS.out);clear HS hget;go_wp2_with fail
    go_quiet (fail)
    go_wp2_with fail
    go_ret;exact ⟨zGC (by rw [hr.out];omega),zAe hbw _⟩
   | false =>
    have et:=qH (show ∀j:Nat,j < i+1→L[j]?≠Z f from fun j hj=>by
     rcases Nat.decEq j i with e | e
     ·exact HS.out j (by omega)
     ·subst e
      rw [hget]
      intro e2
      injection e2 with e2
      rw [e2,zMp] at hq
      cases hq)
    clear HS hget;go_wp2_with fail
    go_quiet (fail)
    go_wp2_with fail
    go_roundw
    case rel=>exact ⟨i+1,by omega,by go_num,zAe hbr _,et⟩
    case measure=>simp [intOf];omega
  ·have hr:=qH (show zAM L f=0 from zEY fun j e=>by
    have hj:=(List.getElem?_eq_some_iff.1 e).1
    rw [HL.out] at hj
    exact HS.out j (by omega) e)
   have i1:¬(i:Int) < (n:Int):=by omega
   clear HS;go_wp2_with fail
   go_ret;exact ⟨zGC (by rw [hr.out];rfl),hbw⟩
theorem zOW {L:List Fg} {i:Nat} (hi:i < L.length):zEZ L i=Q↔1≤(fa L i).p∧(fa L i).p≤9∧0≤(fa L i).d∧(fa L i).d≤6∧zAM L (fa L i)=i+1:=by
 unfold zEZ;rw [Bool.and_eq_true,zAs,decide_eq_true_eq,zOC hi];simp [and_assoc]
set_option maxRecDepth 100000 in
set_option maxHeartbeats 3200000 in
theorem zNA (A:Option Addr) (n c:Nat) (L:List Fg) (re lo:Int) (w:World) (hA:Fgs w A n L) :
  Calls Tryz.prog 18 #[.agg #[H A n c,D J re,D J lo]] w fun e w'=>e=.returned (G (frB L re lo))∧Below w.heap.size w w':=by
 have hln:=hA.len;have aa:Below w.heap.size w (w.alloc (.cells #[H A n c,D J re,D J lo] 24)):=(Below.refl _ _).alloc (Nat.le_refl _) _;by_cases hok:L.length≤40∧0≤re∧re≤40∧1≤lo∧lo≤20
 ·have dP:=qH hok;have HL:=qH hln;have ma:n≤40:=by omega
  have i0:¬(40:Int) < (n:Int):=by omega
  have i1:¬re < 0:=by omega
  have i2:¬40 < re:=by omega
  have i3:¬lo < 1:=by omega
  have i4:¬20 < lo:=by omega
  have hk0:Blk (w.alloc (.cells #[H A n c,D J re,D J lo] 24)) w.heap.size 24 #[H A n c,D J re,D J lo]:=Blk.new _ _ _;clear hok hln;go_enter Tryz.func18,Tryz.ntmps18;go_wp2_with fail
  generalize w.alloc (.cells #[H A n c,D J re,D J lo] 24)=ZR at aa hk0 ⊢;go_loopw [3] (fun v wr=>∃i:Nat,i≤n∧v=D J i∧Below ZR.heap.size ZR wr∧Hid (∀j:Nat,j < i→zEZ L j=Q)) (fun v _=>n-(intOf v).toNat)
  case atStart=>exact ⟨0,Nat.zero_le _,rfl,Below.refl _ _,qH (fun j hj=>by omega)⟩
  case round =>
   obtain ⟨i,hi,rfl,hbr,HS⟩:=hrel;have hkr:=hk0.below hbr hk0.lt;have hbw:=zAa aa hbr aa.size;have e0:wr.cell? ⟨w.heap.size,0,U⟩=Z (H A n c):=(hkr.cell 0).trans rfl;by_cases hlt:i < n
   ·obtain ⟨g,o,rfl,hg,⟨x0,x1,x2⟩,_⟩:=(hA.below hbw).at_ hlt;have j0:(0:Int)≤(i:Int):=by omega
    have j1:(i:Int) < (n:Int):=by omega
    have HG:=qH (zOW (L:=L) (i:=i) (by rw [HL.out];exact hlt));have hlen:i < L.length:=by rw [HL.out];exact hlt
    have hix:zAM L (fa L i)≤n:=by have:=zDo (L:=L) (f:=fa L i);rw [HL.out] at this;exact this
    generalize hx:fa L i=x at x0 x1 x2 HG hix;have HX:=qH hx;have aN:=qH hlen;clear hx hlen;have nN:=(hA.below hbw).alloc (.cells #[D J x.p,G x.r,D J x.d] 90);have aj:Below ZR.heap.size ZR (wr.alloc (.cells #[D J x.p,G x.r,D J x.d] 90)):=hbr.alloc hbr.size _;have HC:=qH (zIx (Z ⟨g,o,U⟩) n c L re lo x _ nN);have hkf:=hkr.alloc (.cells #[D J x.p,G x.r,D J x.d] 90);obtain ⟨y0,y1,y2⟩:=cQ3 hkf;by_cases hth:1≤x.p∧x.p≤9∧0≤x.d∧x.d≤6
    ·obtain ⟨t1,t2,t3,t4⟩:=hth;have uZ:=qH (show 1≤x.p∧x.p≤9∧0≤x.d∧x.d≤6 from ⟨t1,t2,t3,t4⟩);have u1:¬x.p < 1:=by omega
     have u2:¬9 < x.p:=by omega
     have u3:¬x.d < 0:=by omega
     have u4:¬6 < x.d:=by omega
     clear t1 t2 t3 t4;go_wp2_with fail
     refine HC.out.mono ?_;rintro e w5 ⟨rfl,ai⟩;have ao:=zAa aj ai aj.size;by_cases hi1:zAM L x=i+1
     ·have v0:((zAM L x:Int) != (i:Int)+1)=E:=by simp;omega
      have et:=qH (show ∀j:Nat,j < i+1→zEZ L j=Q from fun j hj=>by
       rcases Nat.decEq j i with e | e
       ·exact HS.out j (by omega)
       ·subst e
        have:=uZ.out
        exact HG.out.2 ⟨this.1,this.2.1,this.2.2.1,this.2.2.2,hi1⟩)
      clear HS hi1;go_wp2_with fail
      go_roundw
      case rel=>exact ⟨i+1,by omega,by go_num,ao,et⟩
      case measure=>simp [intOf];omega
     ·have v0:((zAM L x:Int) != (i:Int)+1)=Q:=by simp;omega
      have hr:=qH (zLu (re:=re) (lo:=lo) (L:=L) (i:=i) aN.out (by
       cases e:zEZ L i with
       | false=>rfl
       | true=>exact absurd (HG.out.1 e).2.2.2.2 hi1))
      clear HS hi1;go_wp2_with fail
      go_ret;exact ⟨zDL (by rw [hr.out]),zAa aa ao aa.size⟩
    ·have hr:=qH (zLu (re:=re) (lo:=lo) (L:=L) (i:=i) aN.out (by
      cases e:zEZ L i with
      | false=>rfl
      | true=>have h5:=HG.out.1 e;exact absurd ⟨h5.1,h5.2.1,h5.2.2.1,h5.2.2.2.1⟩ hth))
     go_wp2_with fail
     all_goals first
      | (exfalso;omega)
      | (go_ret;exact ⟨zDL (by rw [hr.out]),zAa aa aj aa.size⟩)
   ·have hr:=qH (show frB L re lo=Q from zCT.2 ⟨dP.out.1,dP.out.2.1,dP.out.2.2.1,dP.out.2.2.2.1,dP.out.2.2.2.2,fun j hj=>HS.out j (by rw [HL.out] at hj;omega)⟩);have j1:¬(i:Int) < (n:Int):=by omega
    clear HS;go_wp2_with fail
    go_ret;exact ⟨zDL (by rw [hr.out]),hbw⟩
 ·have hr:=qH (zTo hok);go_enter Tryz.func18,Tryz.ntmps18;go_wp2_with fail
  all_goals first
   | (exfalso;omega)
   | (go_ret;exact ⟨zDL (by rw [hr.out]),aa⟩)
end Go.Proofs.YtlmdfmnbcndhoaaGreatDoor
