/-
  NARROWER THAN 'FOR EVERY INPUT', by the rows' own cells (each row's printed sentence says how): LineWords: laid · LineNormals: laid · LineForgets: laid · LineForgetsBoth: laid · LineWinds: laid · LineRanks: laid · LineKeeps: laid · LineCircles: laid · LineDrawn: laid · LineSame: laid · LineReduces: laid · LineTurns: laid · LineSymmetries: laid · LineAll: laid · LinePrints: laid · LineParses: laid.
  DERIVED. THE GIVEN ROWS OF THIS SEAT. 16 by the template 'for every input the law returns true; each argument reads behind the call as it read before'; 0 by the template 'total and deterministic' (their statements: YtnlggiimgihmcaaDoorTotals.lean).
  GIVEN WITH THE SEED: the statements are not yours to turn. If you find one false, say at which input.
  Laid BY PROGRAM, IN A SANDBOX (cutbox-rows.mjs): the forced cells as the released guide's own fill.sh prints them over the translation 188b1865a912c76b… (all of the seat's roots in one cut). By AI agents, Wed Nov 11 2026. No macro, syntax, notation, axiom, sorry.
-/
import Derived.Test.YtnlggiimgihmcaaDoorChecked
import GoSem.PinnedTables
import GoSem.Claim
import GoSem.ClaimJoined
import GoSem.ClaimMapViews
import Derived.JoinedTies
import Derived.KernelRfl
namespace Go.Proofs.YtnlggiimgihmcaaDoor
/- THE CELL 'sum', in the pinned program and in every row, IS THE sha256 OF THE DUMP (.gsa) THAT YtnlggiimgihmcaaDoorProg.lean LOADS. Nothing in Lean hashes anything: it is a label: what it is worth is what the hold of that sum in a sandbox is worth. -/
noncomputable def Tryd.pinned : Pinned := { name := "ytnlggiimgihmcaadoor", sum := "188b1865a912c76beec67b981f2a1b038e99c91f098c298f87f74631aaf70cda", checked := Tryd.checked }
namespace Rows
def none {H : Type} : Left H := { results := [], args := [] }

/- WHAT THE LISTED PACKAGE-LEVEL VARIABLES READ AS WHEN THE CALL BEGINS. Each datum BY PROGRAM (the guide's laid-datum.mjs) off the statement by which the dump's own 'gosem.cut.vars' lays the variable. In a bare row this is a premise. The card (YtnlggiimgihmcaaDoorCards.lean) ties it to the program's text. -/
def laid_math_bits_deBruijn32tab {H : Type} : DataW H := .agg [.lit (.int .u8 0), .lit (.int .u8 1), .lit (.int .u8 28), .lit (.int .u8 2), .lit (.int .u8 29), .lit (.int .u8 14), .lit (.int .u8 24), .lit (.int .u8 3), .lit (.int .u8 30), .lit (.int .u8 22), .lit (.int .u8 20), .lit (.int .u8 15), .lit (.int .u8 25), .lit (.int .u8 17), .lit (.int .u8 4), .lit (.int .u8 8), .lit (.int .u8 31), .lit (.int .u8 27), .lit (.int .u8 13), .lit (.int .u8 23), .lit (.int .u8 21), .lit (.int .u8 19), .lit (.int .u8 16), .lit (.int .u8 7), .lit (.int .u8 26), .lit (.int .u8 12), .lit (.int .u8 18), .lit (.int .u8 6), .lit (.int .u8 11), .lit (.int .u8 5), .lit (.int .u8 10), .lit (.int .u8 9)]
def laid_math_bits_deBruijn64tab {H : Type} : DataW H := .agg [.lit (.int .u8 0), .lit (.int .u8 1), .lit (.int .u8 56), .lit (.int .u8 2), .lit (.int .u8 57), .lit (.int .u8 49), .lit (.int .u8 28), .lit (.int .u8 3), .lit (.int .u8 61), .lit (.int .u8 58), .lit (.int .u8 42), .lit (.int .u8 50), .lit (.int .u8 38), .lit (.int .u8 29), .lit (.int .u8 17), .lit (.int .u8 4), .lit (.int .u8 62), .lit (.int .u8 47), .lit (.int .u8 59), .lit (.int .u8 36), .lit (.int .u8 45), .lit (.int .u8 43), .lit (.int .u8 51), .lit (.int .u8 22), .lit (.int .u8 53), .lit (.int .u8 39), .lit (.int .u8 33), .lit (.int .u8 30), .lit (.int .u8 24), .lit (.int .u8 18), .lit (.int .u8 12), .lit (.int .u8 5), .lit (.int .u8 63), .lit (.int .u8 55), .lit (.int .u8 48), .lit (.int .u8 27), .lit (.int .u8 60), .lit (.int .u8 41), .lit (.int .u8 37), .lit (.int .u8 16), .lit (.int .u8 46), .lit (.int .u8 35), .lit (.int .u8 44), .lit (.int .u8 21), .lit (.int .u8 52), .lit (.int .u8 32), .lit (.int .u8 23), .lit (.int .u8 11), .lit (.int .u8 54), .lit (.int .u8 26), .lit (.int .u8 40), .lit (.int .u8 15), .lit (.int .u8 34), .lit (.int .u8 20), .lit (.int .u8 31), .lit (.int .u8 10), .lit (.int .u8 25), .lit (.int .u8 14), .lit (.int .u8 19), .lit (.int .u8 9), .lit (.int .u8 13), .lit (.int .u8 8), .lit (.int .u8 7), .lit (.int .u8 6)]
def laid_internal_strconv_uint64pow10 {H : Type} : DataW H := .agg [.lit (.int .u64 1), .lit (.int .u64 10), .lit (.int .u64 100), .lit (.int .u64 1000), .lit (.int .u64 10000), .lit (.int .u64 100000), .lit (.int .u64 1000000), .lit (.int .u64 10000000), .lit (.int .u64 100000000), .lit (.int .u64 1000000000), .lit (.int .u64 10000000000), .lit (.int .u64 100000000000), .lit (.int .u64 1000000000000), .lit (.int .u64 10000000000000), .lit (.int .u64 100000000000000), .lit (.int .u64 1000000000000000), .lit (.int .u64 10000000000000000), .lit (.int .u64 100000000000000000), .lit (.int .u64 1000000000000000000), .lit (.int .u64 10000000000000000000)]
def laid_unicode_utf8_acceptRanges {H : Type} : DataW H := .agg [.agg [.lit (.int .u8 128), .lit (.int .u8 191)], .agg [.lit (.int .u8 160), .lit (.int .u8 191)], .agg [.lit (.int .u8 128), .lit (.int .u8 159)], .agg [.lit (.int .u8 144), .lit (.int .u8 191)], .agg [.lit (.int .u8 128), .lit (.int .u8 143)], .agg [.lit (.int .u8 0), .lit (.int .u8 0)], .agg [.lit (.int .u8 0), .lit (.int .u8 0)], .agg [.lit (.int .u8 0), .lit (.int .u8 0)], .agg [.lit (.int .u8 0), .lit (.int .u8 0)], .agg [.lit (.int .u8 0), .lit (.int .u8 0)], .agg [.lit (.int .u8 0), .lit (.int .u8 0)], .agg [.lit (.int .u8 0), .lit (.int .u8 0)], .agg [.lit (.int .u8 0), .lit (.int .u8 0)], .agg [.lit (.int .u8 0), .lit (.int .u8 0)], .agg [.lit (.int .u8 0), .lit (.int .u8 0)], .agg [.lit (.int .u8 0), .lit (.int .u8 0)]]
def laid_strconv_ErrRange {H : Type} : DataW H := .iface "*errors.errorString" (.ptr (.agg [.lit (.string [118, 97, 108, 117, 101, 32, 111, 117, 116, 32, 111, 102, 32, 114, 97, 110, 103, 101])]))
def laid_strconv_ErrSyntax {H : Type} : DataW H := .iface "*errors.errorString" (.ptr (.agg [.lit (.string [105, 110, 118, 97, 108, 105, 100, 32, 115, 121, 110, 116, 97, 120])]))
/-- One of Go's own tables, pinned by name: the form's constant. -/
def laid_unicode_utf8_first : DataW Unit := Go.Pinned.utf8First

/-- 'catscradlelaw01.LineWords': WHATEVER THE INPUT: true; the input reads as it did. -/
def lineWordsSpec : ChangeSpec := { name := "lineWords", fn := fun _ => fun
  | [d1, d2] => { results := [.lit (.bool true)], args := [d1, d2] }
  | _ => none }
def lineWordsRow : OpenClaim := { program := "ytnlggiimgihmcaadoor", sum := "188b1865a912c76beec67b981f2a1b038e99c91f098c298f87f74631aaf70cda", func := "catscradle/catscradlelaw01.LineWords", spec := "lineWords", inPlace := ["internal/abi.NoEscape", "internal/bytealg.MakeNoZero"], unfollowed := true, recurses := true, named := ["internal/strconv.uint64pow10", "math/bits.deBruijn32tab", "math/bits.deBruijn64tab"], plainKeys := false, apart := false, laid := [("math/bits.deBruijn32tab", laid_math_bits_deBruijn32tab), ("math/bits.deBruijn64tab", laid_math_bits_deBruijn64tab), ("internal/strconv.uint64pow10", laid_internal_strconv_uint64pow10)] }
def LineWordsSaid : Prop := lineWordsRow.holds Tryd.pinned (OpenSpec.ofChange lineWordsSpec)

/-- ITS FALSE NEIGHBOUR: 'it returns false'. Refute it at one input. -/
def lineWordsWrong : ChangeSpec := { name := "lineWords", fn := fun _ => fun
  | [d1, d2] => { results := [.lit (.bool false)], args := [d1, d2] }
  | _ => none }
def LineWordsWrongFalsely : Prop := lineWordsRow.holds Tryd.pinned (OpenSpec.ofChange lineWordsWrong)

/-- 'catscradlelaw01.LineNormals': WHATEVER THE INPUT: true; the input reads as it did. -/
def lineNormalsSpec : ChangeSpec := { name := "lineNormals", fn := fun _ => fun
  | [d] => { results := [.lit (.bool true)], args := [d] }
  | _ => none }
def lineNormalsRow : OpenClaim := { program := "ytnlggiimgihmcaadoor", sum := "188b1865a912c76beec67b981f2a1b038e99c91f098c298f87f74631aaf70cda", func := "catscradle/catscradlelaw01.LineNormals", spec := "lineNormals", inPlace := ["internal/abi.NoEscape", "internal/bytealg.MakeNoZero"], unfollowed := true, recurses := true, named := ["internal/strconv.uint64pow10", "math/bits.deBruijn32tab", "math/bits.deBruijn64tab"], plainKeys := false, apart := false, laid := [("math/bits.deBruijn32tab", laid_math_bits_deBruijn32tab), ("math/bits.deBruijn64tab", laid_math_bits_deBruijn64tab), ("internal/strconv.uint64pow10", laid_internal_strconv_uint64pow10)] }
def LineNormalsSaid : Prop := lineNormalsRow.holds Tryd.pinned (OpenSpec.ofChange lineNormalsSpec)

/-- ITS FALSE NEIGHBOUR: 'it returns false'. Refute it at one input. -/
def lineNormalsWrong : ChangeSpec := { name := "lineNormals", fn := fun _ => fun
  | [d] => { results := [.lit (.bool false)], args := [d] }
  | _ => none }
def LineNormalsWrongFalsely : Prop := lineNormalsRow.holds Tryd.pinned (OpenSpec.ofChange lineNormalsWrong)

/-- 'catscradlelaw01.LineForgets': WHATEVER THE INPUT: true; the input reads as it did. -/
def lineForgetsSpec : ChangeSpec := { name := "lineForgets", fn := fun _ => fun
  | [d1, d2, d3] => { results := [.lit (.bool true)], args := [d1, d2, d3] }
  | _ => none }
def lineForgetsRow : OpenClaim := { program := "ytnlggiimgihmcaadoor", sum := "188b1865a912c76beec67b981f2a1b038e99c91f098c298f87f74631aaf70cda", func := "catscradle/catscradlelaw01.LineForgets", spec := "lineForgets", inPlace := ["internal/abi.NoEscape", "internal/bytealg.MakeNoZero"], unfollowed := true, recurses := true, named := ["internal/strconv.uint64pow10", "math/bits.deBruijn32tab", "math/bits.deBruijn64tab"], plainKeys := false, apart := false, laid := [("math/bits.deBruijn32tab", laid_math_bits_deBruijn32tab), ("math/bits.deBruijn64tab", laid_math_bits_deBruijn64tab), ("internal/strconv.uint64pow10", laid_internal_strconv_uint64pow10)] }
def LineForgetsSaid : Prop := lineForgetsRow.holds Tryd.pinned (OpenSpec.ofChange lineForgetsSpec)

/-- ITS FALSE NEIGHBOUR: 'it returns false'. Refute it at one input. -/
def lineForgetsWrong : ChangeSpec := { name := "lineForgets", fn := fun _ => fun
  | [d1, d2, d3] => { results := [.lit (.bool false)], args := [d1, d2, d3] }
  | _ => none }
def LineForgetsWrongFalsely : Prop := lineForgetsRow.holds Tryd.pinned (OpenSpec.ofChange lineForgetsWrong)

/-- 'catscradlelaw01.LineForgetsBoth': WHATEVER THE INPUT: true; the input reads as it did. -/
def lineForgetsBothSpec : ChangeSpec := { name := "lineForgetsBoth", fn := fun _ => fun
  | [d1, d2, d3, d4] => { results := [.lit (.bool true)], args := [d1, d2, d3, d4] }
  | _ => none }
def lineForgetsBothRow : OpenClaim := { program := "ytnlggiimgihmcaadoor", sum := "188b1865a912c76beec67b981f2a1b038e99c91f098c298f87f74631aaf70cda", func := "catscradle/catscradlelaw01.LineForgetsBoth", spec := "lineForgetsBoth", inPlace := ["internal/abi.NoEscape", "internal/bytealg.MakeNoZero"], unfollowed := true, recurses := true, named := ["internal/strconv.uint64pow10", "math/bits.deBruijn32tab", "math/bits.deBruijn64tab"], plainKeys := false, apart := false, laid := [("math/bits.deBruijn32tab", laid_math_bits_deBruijn32tab), ("math/bits.deBruijn64tab", laid_math_bits_deBruijn64tab), ("internal/strconv.uint64pow10", laid_internal_strconv_uint64pow10)] }
def LineForgetsBothSaid : Prop := lineForgetsBothRow.holds Tryd.pinned (OpenSpec.ofChange lineForgetsBothSpec)

/-- ITS FALSE NEIGHBOUR: 'it returns false'. Refute it at one input. -/
def lineForgetsBothWrong : ChangeSpec := { name := "lineForgetsBoth", fn := fun _ => fun
  | [d1, d2, d3, d4] => { results := [.lit (.bool false)], args := [d1, d2, d3, d4] }
  | _ => none }
def LineForgetsBothWrongFalsely : Prop := lineForgetsBothRow.holds Tryd.pinned (OpenSpec.ofChange lineForgetsBothWrong)

/-- 'catscradlelaw01.LineWinds': WHATEVER THE INPUT: true; the input reads as it did. -/
def lineWindsSpec : ChangeSpec := { name := "lineWinds", fn := fun _ => fun
  | [d1, d2] => { results := [.lit (.bool true)], args := [d1, d2] }
  | _ => none }
def lineWindsRow : OpenClaim := { program := "ytnlggiimgihmcaadoor", sum := "188b1865a912c76beec67b981f2a1b038e99c91f098c298f87f74631aaf70cda", func := "catscradle/catscradlelaw01.LineWinds", spec := "lineWinds", inPlace := ["internal/abi.NoEscape", "internal/bytealg.MakeNoZero"], unfollowed := true, recurses := true, named := ["internal/strconv.uint64pow10", "math/bits.deBruijn32tab", "math/bits.deBruijn64tab"], plainKeys := false, apart := false, laid := [("math/bits.deBruijn32tab", laid_math_bits_deBruijn32tab), ("math/bits.deBruijn64tab", laid_math_bits_deBruijn64tab), ("internal/strconv.uint64pow10", laid_internal_strconv_uint64pow10)] }
def LineWindsSaid : Prop := lineWindsRow.holds Tryd.pinned (OpenSpec.ofChange lineWindsSpec)

/-- ITS FALSE NEIGHBOUR: 'it returns false'. Refute it at one input. -/
def lineWindsWrong : ChangeSpec := { name := "lineWinds", fn := fun _ => fun
  | [d1, d2] => { results := [.lit (.bool false)], args := [d1, d2] }
  | _ => none }
def LineWindsWrongFalsely : Prop := lineWindsRow.holds Tryd.pinned (OpenSpec.ofChange lineWindsWrong)

/-- 'catscradlelaw01.LineRanks': WHATEVER THE INPUT: true; the input reads as it did. -/
def lineRanksSpec : ChangeSpec := { name := "lineRanks", fn := fun _ => fun
  | [d] => { results := [.lit (.bool true)], args := [d] }
  | _ => none }
def lineRanksRow : OpenClaim := { program := "ytnlggiimgihmcaadoor", sum := "188b1865a912c76beec67b981f2a1b038e99c91f098c298f87f74631aaf70cda", func := "catscradle/catscradlelaw01.LineRanks", spec := "lineRanks", inPlace := ["internal/abi.NoEscape", "internal/bytealg.MakeNoZero"], unfollowed := true, recurses := true, named := ["internal/strconv.uint64pow10", "math/bits.deBruijn32tab", "math/bits.deBruijn64tab"], plainKeys := false, apart := false, laid := [("math/bits.deBruijn32tab", laid_math_bits_deBruijn32tab), ("math/bits.deBruijn64tab", laid_math_bits_deBruijn64tab), ("internal/strconv.uint64pow10", laid_internal_strconv_uint64pow10)] }
def LineRanksSaid : Prop := lineRanksRow.holds Tryd.pinned (OpenSpec.ofChange lineRanksSpec)

/-- ITS FALSE NEIGHBOUR: 'it returns false'. Refute it at one input. -/
def lineRanksWrong : ChangeSpec := { name := "lineRanks", fn := fun _ => fun
  | [d] => { results := [.lit (.bool false)], args := [d] }
  | _ => none }
def LineRanksWrongFalsely : Prop := lineRanksRow.holds Tryd.pinned (OpenSpec.ofChange lineRanksWrong)

/-- 'catscradlelaw01.LineKeeps': WHATEVER THE INPUT: true; the input reads as it did. -/
def lineKeepsSpec : ChangeSpec := { name := "lineKeeps", fn := fun _ => fun
  | [d1, d2] => { results := [.lit (.bool true)], args := [d1, d2] }
  | _ => none }
def lineKeepsRow : OpenClaim := { program := "ytnlggiimgihmcaadoor", sum := "188b1865a912c76beec67b981f2a1b038e99c91f098c298f87f74631aaf70cda", func := "catscradle/catscradlelaw01.LineKeeps", spec := "lineKeeps", inPlace := ["internal/abi.NoEscape", "internal/bytealg.MakeNoZero"], unfollowed := true, recurses := true, named := ["internal/strconv.uint64pow10", "math/bits.deBruijn32tab", "math/bits.deBruijn64tab"], plainKeys := false, apart := false, laid := [("math/bits.deBruijn32tab", laid_math_bits_deBruijn32tab), ("math/bits.deBruijn64tab", laid_math_bits_deBruijn64tab), ("internal/strconv.uint64pow10", laid_internal_strconv_uint64pow10)] }
def LineKeepsSaid : Prop := lineKeepsRow.holds Tryd.pinned (OpenSpec.ofChange lineKeepsSpec)

/-- ITS FALSE NEIGHBOUR: 'it returns false'. Refute it at one input. -/
def lineKeepsWrong : ChangeSpec := { name := "lineKeeps", fn := fun _ => fun
  | [d1, d2] => { results := [.lit (.bool false)], args := [d1, d2] }
  | _ => none }
def LineKeepsWrongFalsely : Prop := lineKeepsRow.holds Tryd.pinned (OpenSpec.ofChange lineKeepsWrong)

/-- 'catscradlelaw01.LineCircles': WHATEVER THE INPUT: true; the input reads as it did. -/
def lineCirclesSpec : ChangeSpec := { name := "lineCircles", fn := fun _ => fun
  | [d1, d2, d3] => { results := [.lit (.bool true)], args := [d1, d2, d3] }
  | _ => none }
def lineCirclesRow : OpenClaim := { program := "ytnlggiimgihmcaadoor", sum := "188b1865a912c76beec67b981f2a1b038e99c91f098c298f87f74631aaf70cda", func := "catscradle/catscradlelaw01.LineCircles", spec := "lineCircles", inPlace := ["internal/abi.NoEscape", "internal/bytealg.MakeNoZero"], unfollowed := true, recurses := true, named := ["internal/strconv.uint64pow10", "math/bits.deBruijn32tab", "math/bits.deBruijn64tab"], plainKeys := false, apart := false, laid := [("math/bits.deBruijn32tab", laid_math_bits_deBruijn32tab), ("math/bits.deBruijn64tab", laid_math_bits_deBruijn64tab), ("internal/strconv.uint64pow10", laid_internal_strconv_uint64pow10)] }
def LineCirclesSaid : Prop := lineCirclesRow.holds Tryd.pinned (OpenSpec.ofChange lineCirclesSpec)

/-- ITS FALSE NEIGHBOUR: 'it returns false'. Refute it at one input. -/
def lineCirclesWrong : ChangeSpec := { name := "lineCircles", fn := fun _ => fun
  | [d1, d2, d3] => { results := [.lit (.bool false)], args := [d1, d2, d3] }
  | _ => none }
def LineCirclesWrongFalsely : Prop := lineCirclesRow.holds Tryd.pinned (OpenSpec.ofChange lineCirclesWrong)

/-- 'catscradlelaw01.LineDrawn': WHATEVER THE INPUT: true; the input reads as it did. -/
def lineDrawnSpec : ChangeSpec := { name := "lineDrawn", fn := fun _ => fun
  | [d1, d2] => { results := [.lit (.bool true)], args := [d1, d2] }
  | _ => none }
def lineDrawnRow : OpenClaim := { program := "ytnlggiimgihmcaadoor", sum := "188b1865a912c76beec67b981f2a1b038e99c91f098c298f87f74631aaf70cda", func := "catscradle/catscradlelaw01.LineDrawn", spec := "lineDrawn", inPlace := ["internal/abi.NoEscape", "internal/bytealg.MakeNoZero"], unfollowed := true, recurses := true, named := ["internal/strconv.uint64pow10", "math/bits.deBruijn32tab", "math/bits.deBruijn64tab"], plainKeys := false, apart := false, laid := [("math/bits.deBruijn32tab", laid_math_bits_deBruijn32tab), ("math/bits.deBruijn64tab", laid_math_bits_deBruijn64tab), ("internal/strconv.uint64pow10", laid_internal_strconv_uint64pow10)] }
def LineDrawnSaid : Prop := lineDrawnRow.holds Tryd.pinned (OpenSpec.ofChange lineDrawnSpec)

/-- ITS FALSE NEIGHBOUR: 'it returns false'. Refute it at one input. -/
def lineDrawnWrong : ChangeSpec := { name := "lineDrawn", fn := fun _ => fun
  | [d1, d2] => { results := [.lit (.bool false)], args := [d1, d2] }
  | _ => none }
def LineDrawnWrongFalsely : Prop := lineDrawnRow.holds Tryd.pinned (OpenSpec.ofChange lineDrawnWrong)

/-- 'catscradlelaw01.LineSame': WHATEVER THE INPUT: true; the input reads as it did. -/
def lineSameSpec : ChangeSpec := { name := "lineSame", fn := fun _ => fun
  | [d1, d2] => { results := [.lit (.bool true)], args := [d1, d2] }
  | _ => none }
def lineSameRow : OpenClaim := { program := "ytnlggiimgihmcaadoor", sum := "188b1865a912c76beec67b981f2a1b038e99c91f098c298f87f74631aaf70cda", func := "catscradle/catscradlelaw01.LineSame", spec := "lineSame", inPlace := ["internal/abi.NoEscape", "internal/bytealg.MakeNoZero"], unfollowed := true, recurses := true, named := ["internal/strconv.uint64pow10", "math/bits.deBruijn32tab", "math/bits.deBruijn64tab"], plainKeys := false, apart := false, laid := [("math/bits.deBruijn32tab", laid_math_bits_deBruijn32tab), ("math/bits.deBruijn64tab", laid_math_bits_deBruijn64tab), ("internal/strconv.uint64pow10", laid_internal_strconv_uint64pow10)] }
def LineSameSaid : Prop := lineSameRow.holds Tryd.pinned (OpenSpec.ofChange lineSameSpec)

/-- ITS FALSE NEIGHBOUR: 'it returns false'. Refute it at one input. -/
def lineSameWrong : ChangeSpec := { name := "lineSame", fn := fun _ => fun
  | [d1, d2] => { results := [.lit (.bool false)], args := [d1, d2] }
  | _ => none }
def LineSameWrongFalsely : Prop := lineSameRow.holds Tryd.pinned (OpenSpec.ofChange lineSameWrong)

/-- 'catscradlelaw01.LineReduces': WHATEVER THE INPUT: true; the input reads as it did. -/
def lineReducesSpec : ChangeSpec := { name := "lineReduces", fn := fun _ => fun
  | [d1, d2, d3] => { results := [.lit (.bool true)], args := [d1, d2, d3] }
  | _ => none }
def lineReducesRow : OpenClaim := { program := "ytnlggiimgihmcaadoor", sum := "188b1865a912c76beec67b981f2a1b038e99c91f098c298f87f74631aaf70cda", func := "catscradle/catscradlelaw01.LineReduces", spec := "lineReduces", inPlace := ["internal/abi.NoEscape", "internal/bytealg.MakeNoZero"], unfollowed := true, recurses := true, named := ["internal/strconv.uint64pow10", "math/bits.deBruijn32tab", "math/bits.deBruijn64tab"], plainKeys := false, apart := false, laid := [("math/bits.deBruijn32tab", laid_math_bits_deBruijn32tab), ("math/bits.deBruijn64tab", laid_math_bits_deBruijn64tab), ("internal/strconv.uint64pow10", laid_internal_strconv_uint64pow10)] }
def LineReducesSaid : Prop := lineReducesRow.holds Tryd.pinned (OpenSpec.ofChange lineReducesSpec)

/-- ITS FALSE NEIGHBOUR: 'it returns false'. Refute it at one input. -/
def lineReducesWrong : ChangeSpec := { name := "lineReduces", fn := fun _ => fun
  | [d1, d2, d3] => { results := [.lit (.bool false)], args := [d1, d2, d3] }
  | _ => none }
def LineReducesWrongFalsely : Prop := lineReducesRow.holds Tryd.pinned (OpenSpec.ofChange lineReducesWrong)

/-- 'catscradlelaw01.LineTurns': WHATEVER THE INPUT: true; the input reads as it did. -/
def lineTurnsSpec : ChangeSpec := { name := "lineTurns", fn := fun _ => fun
  | [d1, d2] => { results := [.lit (.bool true)], args := [d1, d2] }
  | _ => none }
def lineTurnsRow : OpenClaim := { program := "ytnlggiimgihmcaadoor", sum := "188b1865a912c76beec67b981f2a1b038e99c91f098c298f87f74631aaf70cda", func := "catscradle/catscradlelaw01.LineTurns", spec := "lineTurns", inPlace := ["internal/abi.NoEscape", "internal/bytealg.MakeNoZero"], unfollowed := true, recurses := true, named := ["internal/strconv.uint64pow10", "math/bits.deBruijn32tab", "math/bits.deBruijn64tab"], plainKeys := false, apart := false, laid := [("math/bits.deBruijn32tab", laid_math_bits_deBruijn32tab), ("math/bits.deBruijn64tab", laid_math_bits_deBruijn64tab), ("internal/strconv.uint64pow10", laid_internal_strconv_uint64pow10)] }
def LineTurnsSaid : Prop := lineTurnsRow.holds Tryd.pinned (OpenSpec.ofChange lineTurnsSpec)

/-- ITS FALSE NEIGHBOUR: 'it returns false'. Refute it at one input. -/
def lineTurnsWrong : ChangeSpec := { name := "lineTurns", fn := fun _ => fun
  | [d1, d2] => { results := [.lit (.bool false)], args := [d1, d2] }
  | _ => none }
def LineTurnsWrongFalsely : Prop := lineTurnsRow.holds Tryd.pinned (OpenSpec.ofChange lineTurnsWrong)

/-- 'catscradlelaw01.LineSymmetries': WHATEVER THE INPUT: true; the input reads as it did. -/
def lineSymmetriesSpec : ChangeSpec := { name := "lineSymmetries", fn := fun _ => fun
  | [d1, d2] => { results := [.lit (.bool true)], args := [d1, d2] }
  | _ => none }
def lineSymmetriesRow : OpenClaim := { program := "ytnlggiimgihmcaadoor", sum := "188b1865a912c76beec67b981f2a1b038e99c91f098c298f87f74631aaf70cda", func := "catscradle/catscradlelaw01.LineSymmetries", spec := "lineSymmetries", inPlace := ["internal/abi.NoEscape", "internal/bytealg.MakeNoZero"], unfollowed := true, recurses := true, named := ["internal/strconv.uint64pow10", "math/bits.deBruijn32tab", "math/bits.deBruijn64tab"], plainKeys := false, apart := false, laid := [("math/bits.deBruijn32tab", laid_math_bits_deBruijn32tab), ("math/bits.deBruijn64tab", laid_math_bits_deBruijn64tab), ("internal/strconv.uint64pow10", laid_internal_strconv_uint64pow10)] }
def LineSymmetriesSaid : Prop := lineSymmetriesRow.holds Tryd.pinned (OpenSpec.ofChange lineSymmetriesSpec)

/-- ITS FALSE NEIGHBOUR: 'it returns false'. Refute it at one input. -/
def lineSymmetriesWrong : ChangeSpec := { name := "lineSymmetries", fn := fun _ => fun
  | [d1, d2] => { results := [.lit (.bool false)], args := [d1, d2] }
  | _ => none }
def LineSymmetriesWrongFalsely : Prop := lineSymmetriesRow.holds Tryd.pinned (OpenSpec.ofChange lineSymmetriesWrong)

/-- 'catscradlelaw01.LineAll': WHATEVER THE INPUT: true; the input reads as it did. -/
def lineAllSpec : ChangeSpec := { name := "lineAll", fn := fun _ => fun
  | [d1, d2, d3] => { results := [.lit (.bool true)], args := [d1, d2, d3] }
  | _ => none }
def lineAllRow : OpenClaim := { program := "ytnlggiimgihmcaadoor", sum := "188b1865a912c76beec67b981f2a1b038e99c91f098c298f87f74631aaf70cda", func := "catscradle/catscradlelaw01.LineAll", spec := "lineAll", inPlace := ["internal/abi.NoEscape", "internal/bytealg.MakeNoZero"], unfollowed := true, recurses := true, named := ["internal/strconv.uint64pow10", "math/bits.deBruijn32tab", "math/bits.deBruijn64tab"], plainKeys := false, apart := false, laid := [("math/bits.deBruijn32tab", laid_math_bits_deBruijn32tab), ("math/bits.deBruijn64tab", laid_math_bits_deBruijn64tab), ("internal/strconv.uint64pow10", laid_internal_strconv_uint64pow10)] }
def LineAllSaid : Prop := lineAllRow.holds Tryd.pinned (OpenSpec.ofChange lineAllSpec)

/-- ITS FALSE NEIGHBOUR: 'it returns false'. Refute it at one input. -/
def lineAllWrong : ChangeSpec := { name := "lineAll", fn := fun _ => fun
  | [d1, d2, d3] => { results := [.lit (.bool false)], args := [d1, d2, d3] }
  | _ => none }
def LineAllWrongFalsely : Prop := lineAllRow.holds Tryd.pinned (OpenSpec.ofChange lineAllWrong)

/-- 'catscradlelaw01.LinePrints': WHATEVER THE INPUT: true; the input reads as it did. -/
def linePrintsSpec : ChangeSpec := { name := "linePrints", fn := fun _ => fun
  | [d] => { results := [.lit (.bool true)], args := [d] }
  | _ => none }
def linePrintsRow : OpenClaim := { program := "ytnlggiimgihmcaadoor", sum := "188b1865a912c76beec67b981f2a1b038e99c91f098c298f87f74631aaf70cda", func := "catscradle/catscradlelaw01.LinePrints", spec := "linePrints", inPlace := ["internal/abi.NoEscape", "internal/bytealg.MakeNoZero", "internal/bytealg.CountString", "internal/bytealg.IndexByteString", "internal/bytealg.IndexString"], unfollowed := true, recurses := true, named := ["internal/strconv.uint64pow10", "math/bits.deBruijn32tab", "math/bits.deBruijn64tab", "unicode/utf8.first", "unicode/utf8.acceptRanges", "internal/bytealg.MaxLen", "strconv.ErrSyntax", "strconv.ErrRange"], plainKeys := false, apart := false, laid := [("math/bits.deBruijn32tab", laid_math_bits_deBruijn32tab), ("math/bits.deBruijn64tab", laid_math_bits_deBruijn64tab), ("internal/strconv.uint64pow10", laid_internal_strconv_uint64pow10), ("unicode/utf8.acceptRanges", laid_unicode_utf8_acceptRanges), ("strconv.ErrRange", laid_strconv_ErrRange), ("strconv.ErrSyntax", laid_strconv_ErrSyntax), ("unicode/utf8.first", laid_unicode_utf8_first)] }
def LinePrintsSaid : Prop := linePrintsRow.holds Tryd.pinned (OpenSpec.ofChange linePrintsSpec)

/-- ITS FALSE NEIGHBOUR: 'it returns false'. Refute it at one input. -/
def linePrintsWrong : ChangeSpec := { name := "linePrints", fn := fun _ => fun
  | [d] => { results := [.lit (.bool false)], args := [d] }
  | _ => none }
def LinePrintsWrongFalsely : Prop := linePrintsRow.holds Tryd.pinned (OpenSpec.ofChange linePrintsWrong)

/-- 'catscradlelaw01.LineParses': WHATEVER THE INPUT: true; the input reads as it did. -/
def lineParsesSpec : ChangeSpec := { name := "lineParses", fn := fun _ => fun
  | [d] => { results := [.lit (.bool true)], args := [d] }
  | _ => none }
def lineParsesRow : OpenClaim := { program := "ytnlggiimgihmcaadoor", sum := "188b1865a912c76beec67b981f2a1b038e99c91f098c298f87f74631aaf70cda", func := "catscradle/catscradlelaw01.LineParses", spec := "lineParses", inPlace := ["internal/bytealg.CountString", "internal/bytealg.IndexByteString", "internal/bytealg.IndexString", "internal/abi.NoEscape", "internal/bytealg.MakeNoZero"], unfollowed := true, recurses := true, named := ["unicode/utf8.first", "unicode/utf8.acceptRanges", "internal/bytealg.MaxLen", "strconv.ErrSyntax", "strconv.ErrRange", "internal/strconv.uint64pow10", "math/bits.deBruijn32tab", "math/bits.deBruijn64tab"], plainKeys := false, apart := false, laid := [("math/bits.deBruijn32tab", laid_math_bits_deBruijn32tab), ("math/bits.deBruijn64tab", laid_math_bits_deBruijn64tab), ("internal/strconv.uint64pow10", laid_internal_strconv_uint64pow10), ("unicode/utf8.acceptRanges", laid_unicode_utf8_acceptRanges), ("strconv.ErrRange", laid_strconv_ErrRange), ("strconv.ErrSyntax", laid_strconv_ErrSyntax), ("unicode/utf8.first", laid_unicode_utf8_first)] }
def LineParsesSaid : Prop := lineParsesRow.holds Tryd.pinned (OpenSpec.ofChange lineParsesSpec)

/-- ITS FALSE NEIGHBOUR: 'it returns false'. Refute it at one input. -/
def lineParsesWrong : ChangeSpec := { name := "lineParses", fn := fun _ => fun
  | [d] => { results := [.lit (.bool false)], args := [d] }
  | _ => none }
def LineParsesWrongFalsely : Prop := lineParsesRow.holds Tryd.pinned (OpenSpec.ofChange lineParsesWrong)

/- THE SECOND FORM. 'bulk': how many values and letters a reading holds, each counted each time it is reached (what is shared counts as often as it is met; a slice's spare places count too). A statement '..UptoSaid' is the law's where the arguments, and the package variables that the reading takes, are together of bulk at most 1048576: NARROWER than '..Said'. Prove '..Said' where nothing that the law and all that it calls make is longer than what came in: it says more and counts as full. Else prove '..UptoSaid'. A law counts once. -/
mutual
def uptoBulk {H : Type} : DataW H → Nat
  | .lit (.string bytes) => bytes.length + 1
  | .lit _ => 1
  | .nil => 1
  | .ptr d => uptoBulk d + 1
  | .slice elems spare => uptoBulkAll elems + uptoBulkAll spare + 1
  | .agg parts => uptoBulkAll parts + 1
  | .iface _ d => uptoBulk d + 1
  | .map entries => uptoBulkEntries entries + 1
  | .held _ => 1
def uptoBulkAll {H : Type} : List (DataW H) → Nat
  | [] => 0
  | d :: r => uptoBulk d + uptoBulkAll r
def uptoBulkEntries {H : Type} : List (Lit × DataW H) → Nat
  | [] => 0
  | x :: r => uptoBulkEntry x + uptoBulkEntries r
def uptoBulkEntry {H : Type} : Lit × DataW H → Nat
  | (.string bytes, d) => bytes.length + uptoBulk d + 1
  | (_, d) => uptoBulk d + 1
 end
def uptoSmall : (H : Type) → List (DataW H) → Bool := fun _ ds => decide (uptoBulkAll ds ≤ 1048576)
def OpenSpec.upto (s : _root_.Go.ChangeSpec) : _root_.Go.OpenSpec := { _root_.Go.OpenSpec.ofChange s with cond := some uptoSmall }

/-- 'catscradlelaw01.LineWords', WHERE WHAT IT READS IS OF BULK AT MOST 1048576: true; the input reads as it did. -/
def lineWordsUptoRow : OpenClaim := { program := "ytnlggiimgihmcaadoor", sum := "188b1865a912c76beec67b981f2a1b038e99c91f098c298f87f74631aaf70cda", func := "catscradle/catscradlelaw01.LineWords", spec := "lineWords", inPlace := ["internal/abi.NoEscape", "internal/bytealg.MakeNoZero"], unfollowed := true, recurses := true, named := ["internal/strconv.uint64pow10", "math/bits.deBruijn32tab", "math/bits.deBruijn64tab"], plainKeys := false, apart := false, laid := [("math/bits.deBruijn32tab", laid_math_bits_deBruijn32tab), ("math/bits.deBruijn64tab", laid_math_bits_deBruijn64tab), ("internal/strconv.uint64pow10", laid_internal_strconv_uint64pow10)], narrowed := true }
def LineWordsUptoSaid : Prop := lineWordsUptoRow.holds Tryd.pinned (OpenSpec.upto lineWordsSpec)

/-- 'catscradlelaw01.LineNormals', WHERE WHAT IT READS IS OF BULK AT MOST 1048576: true; the input reads as it did. -/
def lineNormalsUptoRow : OpenClaim := { program := "ytnlggiimgihmcaadoor", sum := "188b1865a912c76beec67b981f2a1b038e99c91f098c298f87f74631aaf70cda", func := "catscradle/catscradlelaw01.LineNormals", spec := "lineNormals", inPlace := ["internal/abi.NoEscape", "internal/bytealg.MakeNoZero"], unfollowed := true, recurses := true, named := ["internal/strconv.uint64pow10", "math/bits.deBruijn32tab", "math/bits.deBruijn64tab"], plainKeys := false, apart := false, laid := [("math/bits.deBruijn32tab", laid_math_bits_deBruijn32tab), ("math/bits.deBruijn64tab", laid_math_bits_deBruijn64tab), ("internal/strconv.uint64pow10", laid_internal_strconv_uint64pow10)], narrowed := true }
def LineNormalsUptoSaid : Prop := lineNormalsUptoRow.holds Tryd.pinned (OpenSpec.upto lineNormalsSpec)

/-- 'catscradlelaw01.LineForgets', WHERE WHAT IT READS IS OF BULK AT MOST 1048576: true; the input reads as it did. -/
def lineForgetsUptoRow : OpenClaim := { program := "ytnlggiimgihmcaadoor", sum := "188b1865a912c76beec67b981f2a1b038e99c91f098c298f87f74631aaf70cda", func := "catscradle/catscradlelaw01.LineForgets", spec := "lineForgets", inPlace := ["internal/abi.NoEscape", "internal/bytealg.MakeNoZero"], unfollowed := true, recurses := true, named := ["internal/strconv.uint64pow10", "math/bits.deBruijn32tab", "math/bits.deBruijn64tab"], plainKeys := false, apart := false, laid := [("math/bits.deBruijn32tab", laid_math_bits_deBruijn32tab), ("math/bits.deBruijn64tab", laid_math_bits_deBruijn64tab), ("internal/strconv.uint64pow10", laid_internal_strconv_uint64pow10)], narrowed := true }
def LineForgetsUptoSaid : Prop := lineForgetsUptoRow.holds Tryd.pinned (OpenSpec.upto lineForgetsSpec)

/-- 'catscradlelaw01.LineForgetsBoth', WHERE WHAT IT READS IS OF BULK AT MOST 1048576: true; the input reads as it did. -/
def lineForgetsBothUptoRow : OpenClaim := { program := "ytnlggiimgihmcaadoor", sum := "188b1865a912c76beec67b981f2a1b038e99c91f098c298f87f74631aaf70cda", func := "catscradle/catscradlelaw01.LineForgetsBoth", spec := "lineForgetsBoth", inPlace := ["internal/abi.NoEscape", "internal/bytealg.MakeNoZero"], unfollowed := true, recurses := true, named := ["internal/strconv.uint64pow10", "math/bits.deBruijn32tab", "math/bits.deBruijn64tab"], plainKeys := false, apart := false, laid := [("math/bits.deBruijn32tab", laid_math_bits_deBruijn32tab), ("math/bits.deBruijn64tab", laid_math_bits_deBruijn64tab), ("internal/strconv.uint64pow10", laid_internal_strconv_uint64pow10)], narrowed := true }
def LineForgetsBothUptoSaid : Prop := lineForgetsBothUptoRow.holds Tryd.pinned (OpenSpec.upto lineForgetsBothSpec)

/-- 'catscradlelaw01.LineWinds', WHERE WHAT IT READS IS OF BULK AT MOST 1048576: true; the input reads as it did. -/
def lineWindsUptoRow : OpenClaim := { program := "ytnlggiimgihmcaadoor", sum := "188b1865a912c76beec67b981f2a1b038e99c91f098c298f87f74631aaf70cda", func := "catscradle/catscradlelaw01.LineWinds", spec := "lineWinds", inPlace := ["internal/abi.NoEscape", "internal/bytealg.MakeNoZero"], unfollowed := true, recurses := true, named := ["internal/strconv.uint64pow10", "math/bits.deBruijn32tab", "math/bits.deBruijn64tab"], plainKeys := false, apart := false, laid := [("math/bits.deBruijn32tab", laid_math_bits_deBruijn32tab), ("math/bits.deBruijn64tab", laid_math_bits_deBruijn64tab), ("internal/strconv.uint64pow10", laid_internal_strconv_uint64pow10)], narrowed := true }
def LineWindsUptoSaid : Prop := lineWindsUptoRow.holds Tryd.pinned (OpenSpec.upto lineWindsSpec)

/-- 'catscradlelaw01.LineRanks', WHERE WHAT IT READS IS OF BULK AT MOST 1048576: true; the input reads as it did. -/
def lineRanksUptoRow : OpenClaim := { program := "ytnlggiimgihmcaadoor", sum := "188b1865a912c76beec67b981f2a1b038e99c91f098c298f87f74631aaf70cda", func := "catscradle/catscradlelaw01.LineRanks", spec := "lineRanks", inPlace := ["internal/abi.NoEscape", "internal/bytealg.MakeNoZero"], unfollowed := true, recurses := true, named := ["internal/strconv.uint64pow10", "math/bits.deBruijn32tab", "math/bits.deBruijn64tab"], plainKeys := false, apart := false, laid := [("math/bits.deBruijn32tab", laid_math_bits_deBruijn32tab), ("math/bits.deBruijn64tab", laid_math_bits_deBruijn64tab), ("internal/strconv.uint64pow10", laid_internal_strconv_uint64pow10)], narrowed := true }
def LineRanksUptoSaid : Prop := lineRanksUptoRow.holds Tryd.pinned (OpenSpec.upto lineRanksSpec)

/-- 'catscradlelaw01.LineKeeps', WHERE WHAT IT READS IS OF BULK AT MOST 1048576: true; the input reads as it did. -/
def lineKeepsUptoRow : OpenClaim := { program := "ytnlggiimgihmcaadoor", sum := "188b1865a912c76beec67b981f2a1b038e99c91f098c298f87f74631aaf70cda", func := "catscradle/catscradlelaw01.LineKeeps", spec := "lineKeeps", inPlace := ["internal/abi.NoEscape", "internal/bytealg.MakeNoZero"], unfollowed := true, recurses := true, named := ["internal/strconv.uint64pow10", "math/bits.deBruijn32tab", "math/bits.deBruijn64tab"], plainKeys := false, apart := false, laid := [("math/bits.deBruijn32tab", laid_math_bits_deBruijn32tab), ("math/bits.deBruijn64tab", laid_math_bits_deBruijn64tab), ("internal/strconv.uint64pow10", laid_internal_strconv_uint64pow10)], narrowed := true }
def LineKeepsUptoSaid : Prop := lineKeepsUptoRow.holds Tryd.pinned (OpenSpec.upto lineKeepsSpec)

/-- 'catscradlelaw01.LineCircles', WHERE WHAT IT READS IS OF BULK AT MOST 1048576: true; the input reads as it did. -/
def lineCirclesUptoRow : OpenClaim := { program := "ytnlggiimgihmcaadoor", sum := "188b1865a912c76beec67b981f2a1b038e99c91f098c298f87f74631aaf70cda", func := "catscradle/catscradlelaw01.LineCircles", spec := "lineCircles", inPlace := ["internal/abi.NoEscape", "internal/bytealg.MakeNoZero"], unfollowed := true, recurses := true, named := ["internal/strconv.uint64pow10", "math/bits.deBruijn32tab", "math/bits.deBruijn64tab"], plainKeys := false, apart := false, laid := [("math/bits.deBruijn32tab", laid_math_bits_deBruijn32tab), ("math/bits.deBruijn64tab", laid_math_bits_deBruijn64tab), ("internal/strconv.uint64pow10", laid_internal_strconv_uint64pow10)], narrowed := true }
def LineCirclesUptoSaid : Prop := lineCirclesUptoRow.holds Tryd.pinned (OpenSpec.upto lineCirclesSpec)

/-- 'catscradlelaw01.LineDrawn', WHERE WHAT IT READS IS OF BULK AT MOST 1048576: true; the input reads as it did. -/
def lineDrawnUptoRow : OpenClaim := { program := "ytnlggiimgihmcaadoor", sum := "188b1865a912c76beec67b981f2a1b038e99c91f098c298f87f74631aaf70cda", func := "catscradle/catscradlelaw01.LineDrawn", spec := "lineDrawn", inPlace := ["internal/abi.NoEscape", "internal/bytealg.MakeNoZero"], unfollowed := true, recurses := true, named := ["internal/strconv.uint64pow10", "math/bits.deBruijn32tab", "math/bits.deBruijn64tab"], plainKeys := false, apart := false, laid := [("math/bits.deBruijn32tab", laid_math_bits_deBruijn32tab), ("math/bits.deBruijn64tab", laid_math_bits_deBruijn64tab), ("internal/strconv.uint64pow10", laid_internal_strconv_uint64pow10)], narrowed := true }
def LineDrawnUptoSaid : Prop := lineDrawnUptoRow.holds Tryd.pinned (OpenSpec.upto lineDrawnSpec)

/-- 'catscradlelaw01.LineSame', WHERE WHAT IT READS IS OF BULK AT MOST 1048576: true; the input reads as it did. -/
def lineSameUptoRow : OpenClaim := { program := "ytnlggiimgihmcaadoor", sum := "188b1865a912c76beec67b981f2a1b038e99c91f098c298f87f74631aaf70cda", func := "catscradle/catscradlelaw01.LineSame", spec := "lineSame", inPlace := ["internal/abi.NoEscape", "internal/bytealg.MakeNoZero"], unfollowed := true, recurses := true, named := ["internal/strconv.uint64pow10", "math/bits.deBruijn32tab", "math/bits.deBruijn64tab"], plainKeys := false, apart := false, laid := [("math/bits.deBruijn32tab", laid_math_bits_deBruijn32tab), ("math/bits.deBruijn64tab", laid_math_bits_deBruijn64tab), ("internal/strconv.uint64pow10", laid_internal_strconv_uint64pow10)], narrowed := true }
def LineSameUptoSaid : Prop := lineSameUptoRow.holds Tryd.pinned (OpenSpec.upto lineSameSpec)

/-- 'catscradlelaw01.LineReduces', WHERE WHAT IT READS IS OF BULK AT MOST 1048576: true; the input reads as it did. -/
def lineReducesUptoRow : OpenClaim := { program := "ytnlggiimgihmcaadoor", sum := "188b1865a912c76beec67b981f2a1b038e99c91f098c298f87f74631aaf70cda", func := "catscradle/catscradlelaw01.LineReduces", spec := "lineReduces", inPlace := ["internal/abi.NoEscape", "internal/bytealg.MakeNoZero"], unfollowed := true, recurses := true, named := ["internal/strconv.uint64pow10", "math/bits.deBruijn32tab", "math/bits.deBruijn64tab"], plainKeys := false, apart := false, laid := [("math/bits.deBruijn32tab", laid_math_bits_deBruijn32tab), ("math/bits.deBruijn64tab", laid_math_bits_deBruijn64tab), ("internal/strconv.uint64pow10", laid_internal_strconv_uint64pow10)], narrowed := true }
def LineReducesUptoSaid : Prop := lineReducesUptoRow.holds Tryd.pinned (OpenSpec.upto lineReducesSpec)

/-- 'catscradlelaw01.LineTurns', WHERE WHAT IT READS IS OF BULK AT MOST 1048576: true; the input reads as it did. -/
def lineTurnsUptoRow : OpenClaim := { program := "ytnlggiimgihmcaadoor", sum := "188b1865a912c76beec67b981f2a1b038e99c91f098c298f87f74631aaf70cda", func := "catscradle/catscradlelaw01.LineTurns", spec := "lineTurns", inPlace := ["internal/abi.NoEscape", "internal/bytealg.MakeNoZero"], unfollowed := true, recurses := true, named := ["internal/strconv.uint64pow10", "math/bits.deBruijn32tab", "math/bits.deBruijn64tab"], plainKeys := false, apart := false, laid := [("math/bits.deBruijn32tab", laid_math_bits_deBruijn32tab), ("math/bits.deBruijn64tab", laid_math_bits_deBruijn64tab), ("internal/strconv.uint64pow10", laid_internal_strconv_uint64pow10)], narrowed := true }
def LineTurnsUptoSaid : Prop := lineTurnsUptoRow.holds Tryd.pinned (OpenSpec.upto lineTurnsSpec)

/-- 'catscradlelaw01.LineSymmetries', WHERE WHAT IT READS IS OF BULK AT MOST 1048576: true; the input reads as it did. -/
def lineSymmetriesUptoRow : OpenClaim := { program := "ytnlggiimgihmcaadoor", sum := "188b1865a912c76beec67b981f2a1b038e99c91f098c298f87f74631aaf70cda", func := "catscradle/catscradlelaw01.LineSymmetries", spec := "lineSymmetries", inPlace := ["internal/abi.NoEscape", "internal/bytealg.MakeNoZero"], unfollowed := true, recurses := true, named := ["internal/strconv.uint64pow10", "math/bits.deBruijn32tab", "math/bits.deBruijn64tab"], plainKeys := false, apart := false, laid := [("math/bits.deBruijn32tab", laid_math_bits_deBruijn32tab), ("math/bits.deBruijn64tab", laid_math_bits_deBruijn64tab), ("internal/strconv.uint64pow10", laid_internal_strconv_uint64pow10)], narrowed := true }
def LineSymmetriesUptoSaid : Prop := lineSymmetriesUptoRow.holds Tryd.pinned (OpenSpec.upto lineSymmetriesSpec)

/-- 'catscradlelaw01.LineAll', WHERE WHAT IT READS IS OF BULK AT MOST 1048576: true; the input reads as it did. -/
def lineAllUptoRow : OpenClaim := { program := "ytnlggiimgihmcaadoor", sum := "188b1865a912c76beec67b981f2a1b038e99c91f098c298f87f74631aaf70cda", func := "catscradle/catscradlelaw01.LineAll", spec := "lineAll", inPlace := ["internal/abi.NoEscape", "internal/bytealg.MakeNoZero"], unfollowed := true, recurses := true, named := ["internal/strconv.uint64pow10", "math/bits.deBruijn32tab", "math/bits.deBruijn64tab"], plainKeys := false, apart := false, laid := [("math/bits.deBruijn32tab", laid_math_bits_deBruijn32tab), ("math/bits.deBruijn64tab", laid_math_bits_deBruijn64tab), ("internal/strconv.uint64pow10", laid_internal_strconv_uint64pow10)], narrowed := true }
def LineAllUptoSaid : Prop := lineAllUptoRow.holds Tryd.pinned (OpenSpec.upto lineAllSpec)

/-- 'catscradlelaw01.LinePrints', WHERE WHAT IT READS IS OF BULK AT MOST 1048576: true; the input reads as it did. -/
def linePrintsUptoRow : OpenClaim := { program := "ytnlggiimgihmcaadoor", sum := "188b1865a912c76beec67b981f2a1b038e99c91f098c298f87f74631aaf70cda", func := "catscradle/catscradlelaw01.LinePrints", spec := "linePrints", inPlace := ["internal/abi.NoEscape", "internal/bytealg.MakeNoZero", "internal/bytealg.CountString", "internal/bytealg.IndexByteString", "internal/bytealg.IndexString"], unfollowed := true, recurses := true, named := ["internal/strconv.uint64pow10", "math/bits.deBruijn32tab", "math/bits.deBruijn64tab", "unicode/utf8.first", "unicode/utf8.acceptRanges", "internal/bytealg.MaxLen", "strconv.ErrSyntax", "strconv.ErrRange"], plainKeys := false, apart := false, laid := [("math/bits.deBruijn32tab", laid_math_bits_deBruijn32tab), ("math/bits.deBruijn64tab", laid_math_bits_deBruijn64tab), ("internal/strconv.uint64pow10", laid_internal_strconv_uint64pow10), ("unicode/utf8.acceptRanges", laid_unicode_utf8_acceptRanges), ("strconv.ErrRange", laid_strconv_ErrRange), ("strconv.ErrSyntax", laid_strconv_ErrSyntax), ("unicode/utf8.first", laid_unicode_utf8_first)], narrowed := true }
def LinePrintsUptoSaid : Prop := linePrintsUptoRow.holds Tryd.pinned (OpenSpec.upto linePrintsSpec)

/-- 'catscradlelaw01.LineParses', WHERE WHAT IT READS IS OF BULK AT MOST 1048576: true; the input reads as it did. -/
def lineParsesUptoRow : OpenClaim := { program := "ytnlggiimgihmcaadoor", sum := "188b1865a912c76beec67b981f2a1b038e99c91f098c298f87f74631aaf70cda", func := "catscradle/catscradlelaw01.LineParses", spec := "lineParses", inPlace := ["internal/bytealg.CountString", "internal/bytealg.IndexByteString", "internal/bytealg.IndexString", "internal/abi.NoEscape", "internal/bytealg.MakeNoZero"], unfollowed := true, recurses := true, named := ["unicode/utf8.first", "unicode/utf8.acceptRanges", "internal/bytealg.MaxLen", "strconv.ErrSyntax", "strconv.ErrRange", "internal/strconv.uint64pow10", "math/bits.deBruijn32tab", "math/bits.deBruijn64tab"], plainKeys := false, apart := false, laid := [("math/bits.deBruijn32tab", laid_math_bits_deBruijn32tab), ("math/bits.deBruijn64tab", laid_math_bits_deBruijn64tab), ("internal/strconv.uint64pow10", laid_internal_strconv_uint64pow10), ("unicode/utf8.acceptRanges", laid_unicode_utf8_acceptRanges), ("strconv.ErrRange", laid_strconv_ErrRange), ("strconv.ErrSyntax", laid_strconv_ErrSyntax), ("unicode/utf8.first", laid_unicode_utf8_first)], narrowed := true }
def LineParsesUptoSaid : Prop := lineParsesUptoRow.holds Tryd.pinned (OpenSpec.upto lineParsesSpec)

end Rows
end Go.Proofs.YtnlggiimgihmcaaDoor
