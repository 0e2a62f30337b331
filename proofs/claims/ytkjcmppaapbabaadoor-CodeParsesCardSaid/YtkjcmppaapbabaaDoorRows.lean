/-
  NARROWER THAN 'FOR EVERY INPUT', by the rows' own cells (each row's printed sentence says how): CodeFaces: laid · CodeChecks: laid · CodeEuler: laid · CodeCircles: laid · CodeFingers: laid · CodeTurns: laid · CodeNormals: laid · CodeSame: laid · CodePlain: laid · CodeOwn: laid · CodeStarts: laid · CodeGroup: laid · CodeForgets: laid · CodeErrors: laid · CodeWords: laid · CodePrints: laid · CodeParses: laid.
  DERIVED. THE GIVEN ROWS OF THIS SEAT. 17 by the template 'for every input the law returns true; each argument reads behind the call as it read before'; 0 by the template 'total and deterministic' (their statements: YtkjcmppaapbabaaDoorTotals.lean).
  GIVEN WITH THE SEED: the statements are not yours to turn. If you find one false, say at which input.
  Laid BY PROGRAM, IN A SANDBOX (cutbox-rows.mjs): the forced cells as the released guide's own fill.sh prints them over the translation 061d80c4df2bbae4… (all of the seat's roots in one cut). By AI agents, Wed Nov 11 2026. No macro, syntax, notation, axiom, sorry.
-/
import Derived.Test.YtkjcmppaapbabaaDoorChecked
import GoSem.Claim
import GoSem.ClaimJoined
import GoSem.ClaimMapViews
import Derived.JoinedTies
import Derived.KernelRfl
namespace Go.Proofs.YtkjcmppaapbabaaDoor
/- THE CELL 'sum', in the pinned program and in every row, IS THE sha256 OF THE DUMP (.gsa) THAT YtkjcmppaapbabaaDoorProg.lean LOADS. Nothing in Lean hashes anything: it is a label: what it is worth is what the hold of that sum in a sandbox is worth. -/
noncomputable def Tryd.pinned : Pinned := { name := "ytkjcmppaapbabaadoor", sum := "061d80c4df2bbae4486f75a2bbde2d1acaa82c3ae22989418e52825554656394", checked := Tryd.checked }
namespace Rows
def none {H : Type} : Left H := { results := [], args := [] }

/- WHAT THE LISTED PACKAGE-LEVEL VARIABLES READ AS WHEN THE CALL BEGINS. Each datum BY PROGRAM (the guide's laid-datum.mjs) off the statement by which the dump's own 'gosem.cut.vars' lays the variable. In a bare row this is a premise. The card (YtkjcmppaapbabaaDoorCards.lean) ties it to the program's text. -/
def laid_math_bits_deBruijn32tab {H : Type} : DataW H := .agg [.lit (.int .u8 0), .lit (.int .u8 1), .lit (.int .u8 28), .lit (.int .u8 2), .lit (.int .u8 29), .lit (.int .u8 14), .lit (.int .u8 24), .lit (.int .u8 3), .lit (.int .u8 30), .lit (.int .u8 22), .lit (.int .u8 20), .lit (.int .u8 15), .lit (.int .u8 25), .lit (.int .u8 17), .lit (.int .u8 4), .lit (.int .u8 8), .lit (.int .u8 31), .lit (.int .u8 27), .lit (.int .u8 13), .lit (.int .u8 23), .lit (.int .u8 21), .lit (.int .u8 19), .lit (.int .u8 16), .lit (.int .u8 7), .lit (.int .u8 26), .lit (.int .u8 12), .lit (.int .u8 18), .lit (.int .u8 6), .lit (.int .u8 11), .lit (.int .u8 5), .lit (.int .u8 10), .lit (.int .u8 9)]
def laid_math_bits_deBruijn64tab {H : Type} : DataW H := .agg [.lit (.int .u8 0), .lit (.int .u8 1), .lit (.int .u8 56), .lit (.int .u8 2), .lit (.int .u8 57), .lit (.int .u8 49), .lit (.int .u8 28), .lit (.int .u8 3), .lit (.int .u8 61), .lit (.int .u8 58), .lit (.int .u8 42), .lit (.int .u8 50), .lit (.int .u8 38), .lit (.int .u8 29), .lit (.int .u8 17), .lit (.int .u8 4), .lit (.int .u8 62), .lit (.int .u8 47), .lit (.int .u8 59), .lit (.int .u8 36), .lit (.int .u8 45), .lit (.int .u8 43), .lit (.int .u8 51), .lit (.int .u8 22), .lit (.int .u8 53), .lit (.int .u8 39), .lit (.int .u8 33), .lit (.int .u8 30), .lit (.int .u8 24), .lit (.int .u8 18), .lit (.int .u8 12), .lit (.int .u8 5), .lit (.int .u8 63), .lit (.int .u8 55), .lit (.int .u8 48), .lit (.int .u8 27), .lit (.int .u8 60), .lit (.int .u8 41), .lit (.int .u8 37), .lit (.int .u8 16), .lit (.int .u8 46), .lit (.int .u8 35), .lit (.int .u8 44), .lit (.int .u8 21), .lit (.int .u8 52), .lit (.int .u8 32), .lit (.int .u8 23), .lit (.int .u8 11), .lit (.int .u8 54), .lit (.int .u8 26), .lit (.int .u8 40), .lit (.int .u8 15), .lit (.int .u8 34), .lit (.int .u8 20), .lit (.int .u8 31), .lit (.int .u8 10), .lit (.int .u8 25), .lit (.int .u8 14), .lit (.int .u8 19), .lit (.int .u8 9), .lit (.int .u8 13), .lit (.int .u8 8), .lit (.int .u8 7), .lit (.int .u8 6)]
def laid_internal_strconv_uint64pow10 {H : Type} : DataW H := .agg [.lit (.int .u64 1), .lit (.int .u64 10), .lit (.int .u64 100), .lit (.int .u64 1000), .lit (.int .u64 10000), .lit (.int .u64 100000), .lit (.int .u64 1000000), .lit (.int .u64 10000000), .lit (.int .u64 100000000), .lit (.int .u64 1000000000), .lit (.int .u64 10000000000), .lit (.int .u64 100000000000), .lit (.int .u64 1000000000000), .lit (.int .u64 10000000000000), .lit (.int .u64 100000000000000), .lit (.int .u64 1000000000000000), .lit (.int .u64 10000000000000000), .lit (.int .u64 100000000000000000), .lit (.int .u64 1000000000000000000), .lit (.int .u64 10000000000000000000)]
def laid_strconv_ErrRange {H : Type} : DataW H := .iface "*errors.errorString" (.ptr (.agg [.lit (.string [118, 97, 108, 117, 101, 32, 111, 117, 116, 32, 111, 102, 32, 114, 97, 110, 103, 101])]))
def laid_strconv_ErrSyntax {H : Type} : DataW H := .iface "*errors.errorString" (.ptr (.agg [.lit (.string [105, 110, 118, 97, 108, 105, 100, 32, 115, 121, 110, 116, 97, 120])]))

/-- 'catscradlelaw02.CodeFaces': WHATEVER THE INPUT: true; the input reads as it did. -/
def codeFacesSpec : ChangeSpec := { name := "codeFaces", fn := fun _ => fun
  | [d] => { results := [.lit (.bool true)], args := [d] }
  | _ => none }
def codeFacesRow : OpenClaim := { program := "ytkjcmppaapbabaadoor", sum := "061d80c4df2bbae4486f75a2bbde2d1acaa82c3ae22989418e52825554656394", func := "catscradle/catscradlelaw02.CodeFaces", spec := "codeFaces", unfollowed := true, recurses := true, named := ["internal/strconv.uint64pow10", "math/bits.deBruijn32tab", "math/bits.deBruijn64tab"], plainKeys := false, apart := false, laid := [("math/bits.deBruijn32tab", laid_math_bits_deBruijn32tab), ("math/bits.deBruijn64tab", laid_math_bits_deBruijn64tab), ("internal/strconv.uint64pow10", laid_internal_strconv_uint64pow10)] }
def CodeFacesSaid : Prop := codeFacesRow.holds Tryd.pinned (OpenSpec.ofChange codeFacesSpec)

/-- ITS FALSE NEIGHBOUR: 'it returns false'. Refute it at one input. -/
def codeFacesWrong : ChangeSpec := { name := "codeFaces", fn := fun _ => fun
  | [d] => { results := [.lit (.bool false)], args := [d] }
  | _ => none }
def CodeFacesWrongFalsely : Prop := codeFacesRow.holds Tryd.pinned (OpenSpec.ofChange codeFacesWrong)

/-- 'catscradlelaw02.CodeChecks': WHATEVER THE INPUT: true; the input reads as it did. -/
def codeChecksSpec : ChangeSpec := { name := "codeChecks", fn := fun _ => fun
  | [d] => { results := [.lit (.bool true)], args := [d] }
  | _ => none }
def codeChecksRow : OpenClaim := { program := "ytkjcmppaapbabaadoor", sum := "061d80c4df2bbae4486f75a2bbde2d1acaa82c3ae22989418e52825554656394", func := "catscradle/catscradlelaw02.CodeChecks", spec := "codeChecks", unfollowed := true, recurses := true, named := ["internal/strconv.uint64pow10", "math/bits.deBruijn32tab", "math/bits.deBruijn64tab"], plainKeys := false, apart := false, laid := [("math/bits.deBruijn32tab", laid_math_bits_deBruijn32tab), ("math/bits.deBruijn64tab", laid_math_bits_deBruijn64tab), ("internal/strconv.uint64pow10", laid_internal_strconv_uint64pow10)] }
def CodeChecksSaid : Prop := codeChecksRow.holds Tryd.pinned (OpenSpec.ofChange codeChecksSpec)

/-- ITS FALSE NEIGHBOUR: 'it returns false'. Refute it at one input. -/
def codeChecksWrong : ChangeSpec := { name := "codeChecks", fn := fun _ => fun
  | [d] => { results := [.lit (.bool false)], args := [d] }
  | _ => none }
def CodeChecksWrongFalsely : Prop := codeChecksRow.holds Tryd.pinned (OpenSpec.ofChange codeChecksWrong)

/-- 'catscradlelaw02.CodeEuler': WHATEVER THE INPUT: true; the input reads as it did. -/
def codeEulerSpec : ChangeSpec := { name := "codeEuler", fn := fun _ => fun
  | [d] => { results := [.lit (.bool true)], args := [d] }
  | _ => none }
def codeEulerRow : OpenClaim := { program := "ytkjcmppaapbabaadoor", sum := "061d80c4df2bbae4486f75a2bbde2d1acaa82c3ae22989418e52825554656394", func := "catscradle/catscradlelaw02.CodeEuler", spec := "codeEuler", unfollowed := true, recurses := true, named := ["internal/strconv.uint64pow10", "math/bits.deBruijn32tab", "math/bits.deBruijn64tab"], plainKeys := false, apart := false, laid := [("math/bits.deBruijn32tab", laid_math_bits_deBruijn32tab), ("math/bits.deBruijn64tab", laid_math_bits_deBruijn64tab), ("internal/strconv.uint64pow10", laid_internal_strconv_uint64pow10)] }
def CodeEulerSaid : Prop := codeEulerRow.holds Tryd.pinned (OpenSpec.ofChange codeEulerSpec)

/-- ITS FALSE NEIGHBOUR: 'it returns false'. Refute it at one input. -/
def codeEulerWrong : ChangeSpec := { name := "codeEuler", fn := fun _ => fun
  | [d] => { results := [.lit (.bool false)], args := [d] }
  | _ => none }
def CodeEulerWrongFalsely : Prop := codeEulerRow.holds Tryd.pinned (OpenSpec.ofChange codeEulerWrong)

/-- 'catscradlelaw02.CodeCircles': WHATEVER THE INPUT: true; the input reads as it did. -/
def codeCirclesSpec : ChangeSpec := { name := "codeCircles", fn := fun _ => fun
  | [d1, d2, d3] => { results := [.lit (.bool true)], args := [d1, d2, d3] }
  | _ => none }
def codeCirclesRow : OpenClaim := { program := "ytkjcmppaapbabaadoor", sum := "061d80c4df2bbae4486f75a2bbde2d1acaa82c3ae22989418e52825554656394", func := "catscradle/catscradlelaw02.CodeCircles", spec := "codeCircles", unfollowed := true, recurses := true, named := ["internal/strconv.uint64pow10", "math/bits.deBruijn32tab", "math/bits.deBruijn64tab"], plainKeys := false, apart := false, laid := [("math/bits.deBruijn32tab", laid_math_bits_deBruijn32tab), ("math/bits.deBruijn64tab", laid_math_bits_deBruijn64tab), ("internal/strconv.uint64pow10", laid_internal_strconv_uint64pow10)] }
def CodeCirclesSaid : Prop := codeCirclesRow.holds Tryd.pinned (OpenSpec.ofChange codeCirclesSpec)

/-- ITS FALSE NEIGHBOUR: 'it returns false'. Refute it at one input. -/
def codeCirclesWrong : ChangeSpec := { name := "codeCircles", fn := fun _ => fun
  | [d1, d2, d3] => { results := [.lit (.bool false)], args := [d1, d2, d3] }
  | _ => none }
def CodeCirclesWrongFalsely : Prop := codeCirclesRow.holds Tryd.pinned (OpenSpec.ofChange codeCirclesWrong)

/-- 'catscradlelaw02.CodeFingers': WHATEVER THE INPUT: true; the input reads as it did. -/
def codeFingersSpec : ChangeSpec := { name := "codeFingers", fn := fun _ => fun
  | [d1, d2, d3] => { results := [.lit (.bool true)], args := [d1, d2, d3] }
  | _ => none }
def codeFingersRow : OpenClaim := { program := "ytkjcmppaapbabaadoor", sum := "061d80c4df2bbae4486f75a2bbde2d1acaa82c3ae22989418e52825554656394", func := "catscradle/catscradlelaw02.CodeFingers", spec := "codeFingers", unfollowed := true, recurses := true, named := ["internal/strconv.uint64pow10", "math/bits.deBruijn32tab", "math/bits.deBruijn64tab"], plainKeys := false, apart := false, laid := [("math/bits.deBruijn32tab", laid_math_bits_deBruijn32tab), ("math/bits.deBruijn64tab", laid_math_bits_deBruijn64tab), ("internal/strconv.uint64pow10", laid_internal_strconv_uint64pow10)] }
def CodeFingersSaid : Prop := codeFingersRow.holds Tryd.pinned (OpenSpec.ofChange codeFingersSpec)

/-- ITS FALSE NEIGHBOUR: 'it returns false'. Refute it at one input. -/
def codeFingersWrong : ChangeSpec := { name := "codeFingers", fn := fun _ => fun
  | [d1, d2, d3] => { results := [.lit (.bool false)], args := [d1, d2, d3] }
  | _ => none }
def CodeFingersWrongFalsely : Prop := codeFingersRow.holds Tryd.pinned (OpenSpec.ofChange codeFingersWrong)

/-- 'catscradlelaw02.CodeTurns': WHATEVER THE INPUT: true; the input reads as it did. -/
def codeTurnsSpec : ChangeSpec := { name := "codeTurns", fn := fun _ => fun
  | [d] => { results := [.lit (.bool true)], args := [d] }
  | _ => none }
def codeTurnsRow : OpenClaim := { program := "ytkjcmppaapbabaadoor", sum := "061d80c4df2bbae4486f75a2bbde2d1acaa82c3ae22989418e52825554656394", func := "catscradle/catscradlelaw02.CodeTurns", spec := "codeTurns", unfollowed := true, recurses := true, named := ["internal/strconv.uint64pow10", "math/bits.deBruijn32tab", "math/bits.deBruijn64tab"], plainKeys := false, apart := false, laid := [("math/bits.deBruijn32tab", laid_math_bits_deBruijn32tab), ("math/bits.deBruijn64tab", laid_math_bits_deBruijn64tab), ("internal/strconv.uint64pow10", laid_internal_strconv_uint64pow10)] }
def CodeTurnsSaid : Prop := codeTurnsRow.holds Tryd.pinned (OpenSpec.ofChange codeTurnsSpec)

/-- ITS FALSE NEIGHBOUR: 'it returns false'. Refute it at one input. -/
def codeTurnsWrong : ChangeSpec := { name := "codeTurns", fn := fun _ => fun
  | [d] => { results := [.lit (.bool false)], args := [d] }
  | _ => none }
def CodeTurnsWrongFalsely : Prop := codeTurnsRow.holds Tryd.pinned (OpenSpec.ofChange codeTurnsWrong)

/-- 'catscradlelaw02.CodeNormals': WHATEVER THE INPUT: true; the input reads as it did. -/
def codeNormalsSpec : ChangeSpec := { name := "codeNormals", fn := fun _ => fun
  | [d] => { results := [.lit (.bool true)], args := [d] }
  | _ => none }
def codeNormalsRow : OpenClaim := { program := "ytkjcmppaapbabaadoor", sum := "061d80c4df2bbae4486f75a2bbde2d1acaa82c3ae22989418e52825554656394", func := "catscradle/catscradlelaw02.CodeNormals", spec := "codeNormals", unfollowed := true, recurses := true, named := ["internal/strconv.uint64pow10", "math/bits.deBruijn32tab", "math/bits.deBruijn64tab"], plainKeys := false, apart := false, laid := [("math/bits.deBruijn32tab", laid_math_bits_deBruijn32tab), ("math/bits.deBruijn64tab", laid_math_bits_deBruijn64tab), ("internal/strconv.uint64pow10", laid_internal_strconv_uint64pow10)] }
def CodeNormalsSaid : Prop := codeNormalsRow.holds Tryd.pinned (OpenSpec.ofChange codeNormalsSpec)

/-- ITS FALSE NEIGHBOUR: 'it returns false'. Refute it at one input. -/
def codeNormalsWrong : ChangeSpec := { name := "codeNormals", fn := fun _ => fun
  | [d] => { results := [.lit (.bool false)], args := [d] }
  | _ => none }
def CodeNormalsWrongFalsely : Prop := codeNormalsRow.holds Tryd.pinned (OpenSpec.ofChange codeNormalsWrong)

/-- 'catscradlelaw02.CodeSame': WHATEVER THE INPUT: true; the input reads as it did. -/
def codeSameSpec : ChangeSpec := { name := "codeSame", fn := fun _ => fun
  | [d1, d2] => { results := [.lit (.bool true)], args := [d1, d2] }
  | _ => none }
def codeSameRow : OpenClaim := { program := "ytkjcmppaapbabaadoor", sum := "061d80c4df2bbae4486f75a2bbde2d1acaa82c3ae22989418e52825554656394", func := "catscradle/catscradlelaw02.CodeSame", spec := "codeSame", unfollowed := true, recurses := true, named := ["internal/strconv.uint64pow10", "math/bits.deBruijn32tab", "math/bits.deBruijn64tab"], plainKeys := false, apart := false, laid := [("math/bits.deBruijn32tab", laid_math_bits_deBruijn32tab), ("math/bits.deBruijn64tab", laid_math_bits_deBruijn64tab), ("internal/strconv.uint64pow10", laid_internal_strconv_uint64pow10)] }
def CodeSameSaid : Prop := codeSameRow.holds Tryd.pinned (OpenSpec.ofChange codeSameSpec)

/-- ITS FALSE NEIGHBOUR: 'it returns false'. Refute it at one input. -/
def codeSameWrong : ChangeSpec := { name := "codeSame", fn := fun _ => fun
  | [d1, d2] => { results := [.lit (.bool false)], args := [d1, d2] }
  | _ => none }
def CodeSameWrongFalsely : Prop := codeSameRow.holds Tryd.pinned (OpenSpec.ofChange codeSameWrong)

/-- 'catscradlelaw02.CodePlain': WHATEVER THE INPUT: true; the input reads as it did. -/
def codePlainSpec : ChangeSpec := { name := "codePlain", fn := fun _ => fun
  | [d1, d2, d3] => { results := [.lit (.bool true)], args := [d1, d2, d3] }
  | _ => none }
def codePlainRow : OpenClaim := { program := "ytkjcmppaapbabaadoor", sum := "061d80c4df2bbae4486f75a2bbde2d1acaa82c3ae22989418e52825554656394", func := "catscradle/catscradlelaw02.CodePlain", spec := "codePlain", unfollowed := true, recurses := true, named := ["internal/strconv.uint64pow10", "math/bits.deBruijn32tab", "math/bits.deBruijn64tab"], plainKeys := false, apart := false, laid := [("math/bits.deBruijn32tab", laid_math_bits_deBruijn32tab), ("math/bits.deBruijn64tab", laid_math_bits_deBruijn64tab), ("internal/strconv.uint64pow10", laid_internal_strconv_uint64pow10)] }
def CodePlainSaid : Prop := codePlainRow.holds Tryd.pinned (OpenSpec.ofChange codePlainSpec)

/-- ITS FALSE NEIGHBOUR: 'it returns false'. Refute it at one input. -/
def codePlainWrong : ChangeSpec := { name := "codePlain", fn := fun _ => fun
  | [d1, d2, d3] => { results := [.lit (.bool false)], args := [d1, d2, d3] }
  | _ => none }
def CodePlainWrongFalsely : Prop := codePlainRow.holds Tryd.pinned (OpenSpec.ofChange codePlainWrong)

/-- 'catscradlelaw02.CodeOwn': WHATEVER THE INPUT: true; the input reads as it did. -/
def codeOwnSpec : ChangeSpec := { name := "codeOwn", fn := fun _ => fun
  | [d1, d2] => { results := [.lit (.bool true)], args := [d1, d2] }
  | _ => none }
def codeOwnRow : OpenClaim := { program := "ytkjcmppaapbabaadoor", sum := "061d80c4df2bbae4486f75a2bbde2d1acaa82c3ae22989418e52825554656394", func := "catscradle/catscradlelaw02.CodeOwn", spec := "codeOwn", unfollowed := true, recurses := true, named := ["internal/strconv.uint64pow10", "math/bits.deBruijn32tab", "math/bits.deBruijn64tab"], plainKeys := false, apart := false, laid := [("math/bits.deBruijn32tab", laid_math_bits_deBruijn32tab), ("math/bits.deBruijn64tab", laid_math_bits_deBruijn64tab), ("internal/strconv.uint64pow10", laid_internal_strconv_uint64pow10)] }
def CodeOwnSaid : Prop := codeOwnRow.holds Tryd.pinned (OpenSpec.ofChange codeOwnSpec)

/-- ITS FALSE NEIGHBOUR: 'it returns false'. Refute it at one input. -/
def codeOwnWrong : ChangeSpec := { name := "codeOwn", fn := fun _ => fun
  | [d1, d2] => { results := [.lit (.bool false)], args := [d1, d2] }
  | _ => none }
def CodeOwnWrongFalsely : Prop := codeOwnRow.holds Tryd.pinned (OpenSpec.ofChange codeOwnWrong)

/-- 'catscradlelaw02.CodeStarts': WHATEVER THE INPUT: true; the input reads as it did. -/
def codeStartsSpec : ChangeSpec := { name := "codeStarts", fn := fun _ => fun
  | [d1, d2, d3] => { results := [.lit (.bool true)], args := [d1, d2, d3] }
  | _ => none }
def codeStartsRow : OpenClaim := { program := "ytkjcmppaapbabaadoor", sum := "061d80c4df2bbae4486f75a2bbde2d1acaa82c3ae22989418e52825554656394", func := "catscradle/catscradlelaw02.CodeStarts", spec := "codeStarts", unfollowed := true, recurses := true, named := ["internal/strconv.uint64pow10", "math/bits.deBruijn32tab", "math/bits.deBruijn64tab"], plainKeys := false, apart := false, laid := [("math/bits.deBruijn32tab", laid_math_bits_deBruijn32tab), ("math/bits.deBruijn64tab", laid_math_bits_deBruijn64tab), ("internal/strconv.uint64pow10", laid_internal_strconv_uint64pow10)] }
def CodeStartsSaid : Prop := codeStartsRow.holds Tryd.pinned (OpenSpec.ofChange codeStartsSpec)

/-- ITS FALSE NEIGHBOUR: 'it returns false'. Refute it at one input. -/
def codeStartsWrong : ChangeSpec := { name := "codeStarts", fn := fun _ => fun
  | [d1, d2, d3] => { results := [.lit (.bool false)], args := [d1, d2, d3] }
  | _ => none }
def CodeStartsWrongFalsely : Prop := codeStartsRow.holds Tryd.pinned (OpenSpec.ofChange codeStartsWrong)

/-- 'catscradlelaw02.CodeGroup': WHATEVER THE INPUT: true; the input reads as it did. -/
def codeGroupSpec : ChangeSpec := { name := "codeGroup", fn := fun _ => fun
  | [d] => { results := [.lit (.bool true)], args := [d] }
  | _ => none }
def codeGroupRow : OpenClaim := { program := "ytkjcmppaapbabaadoor", sum := "061d80c4df2bbae4486f75a2bbde2d1acaa82c3ae22989418e52825554656394", func := "catscradle/catscradlelaw02.CodeGroup", spec := "codeGroup", unfollowed := true, recurses := true, named := ["internal/strconv.uint64pow10", "math/bits.deBruijn32tab", "math/bits.deBruijn64tab"], plainKeys := false, apart := false, laid := [("math/bits.deBruijn32tab", laid_math_bits_deBruijn32tab), ("math/bits.deBruijn64tab", laid_math_bits_deBruijn64tab), ("internal/strconv.uint64pow10", laid_internal_strconv_uint64pow10)] }
def CodeGroupSaid : Prop := codeGroupRow.holds Tryd.pinned (OpenSpec.ofChange codeGroupSpec)

/-- ITS FALSE NEIGHBOUR: 'it returns false'. Refute it at one input. -/
def codeGroupWrong : ChangeSpec := { name := "codeGroup", fn := fun _ => fun
  | [d] => { results := [.lit (.bool false)], args := [d] }
  | _ => none }
def CodeGroupWrongFalsely : Prop := codeGroupRow.holds Tryd.pinned (OpenSpec.ofChange codeGroupWrong)

/-- 'catscradlelaw02.CodeForgets': WHATEVER THE INPUT: true; the input reads as it did. -/
def codeForgetsSpec : ChangeSpec := { name := "codeForgets", fn := fun _ => fun
  | [d1, d2, d3] => { results := [.lit (.bool true)], args := [d1, d2, d3] }
  | _ => none }
def codeForgetsRow : OpenClaim := { program := "ytkjcmppaapbabaadoor", sum := "061d80c4df2bbae4486f75a2bbde2d1acaa82c3ae22989418e52825554656394", func := "catscradle/catscradlelaw02.CodeForgets", spec := "codeForgets", unfollowed := true, recurses := true, named := ["internal/strconv.uint64pow10", "math/bits.deBruijn32tab", "math/bits.deBruijn64tab"], plainKeys := false, apart := false, laid := [("math/bits.deBruijn32tab", laid_math_bits_deBruijn32tab), ("math/bits.deBruijn64tab", laid_math_bits_deBruijn64tab), ("internal/strconv.uint64pow10", laid_internal_strconv_uint64pow10)] }
def CodeForgetsSaid : Prop := codeForgetsRow.holds Tryd.pinned (OpenSpec.ofChange codeForgetsSpec)

/-- ITS FALSE NEIGHBOUR: 'it returns false'. Refute it at one input. -/
def codeForgetsWrong : ChangeSpec := { name := "codeForgets", fn := fun _ => fun
  | [d1, d2, d3] => { results := [.lit (.bool false)], args := [d1, d2, d3] }
  | _ => none }
def CodeForgetsWrongFalsely : Prop := codeForgetsRow.holds Tryd.pinned (OpenSpec.ofChange codeForgetsWrong)

/-- 'catscradlelaw02.CodeErrors': WHATEVER THE INPUT: true; the input reads as it did. -/
def codeErrorsSpec : ChangeSpec := { name := "codeErrors", fn := fun _ => fun
  | [d1, d2, d3] => { results := [.lit (.bool true)], args := [d1, d2, d3] }
  | _ => none }
def codeErrorsRow : OpenClaim := { program := "ytkjcmppaapbabaadoor", sum := "061d80c4df2bbae4486f75a2bbde2d1acaa82c3ae22989418e52825554656394", func := "catscradle/catscradlelaw02.CodeErrors", spec := "codeErrors", unfollowed := true, recurses := true, named := ["internal/strconv.uint64pow10", "math/bits.deBruijn32tab", "math/bits.deBruijn64tab"], plainKeys := false, apart := false, laid := [("math/bits.deBruijn32tab", laid_math_bits_deBruijn32tab), ("math/bits.deBruijn64tab", laid_math_bits_deBruijn64tab), ("internal/strconv.uint64pow10", laid_internal_strconv_uint64pow10)] }
def CodeErrorsSaid : Prop := codeErrorsRow.holds Tryd.pinned (OpenSpec.ofChange codeErrorsSpec)

/-- ITS FALSE NEIGHBOUR: 'it returns false'. Refute it at one input. -/
def codeErrorsWrong : ChangeSpec := { name := "codeErrors", fn := fun _ => fun
  | [d1, d2, d3] => { results := [.lit (.bool false)], args := [d1, d2, d3] }
  | _ => none }
def CodeErrorsWrongFalsely : Prop := codeErrorsRow.holds Tryd.pinned (OpenSpec.ofChange codeErrorsWrong)

/-- 'catscradlelaw02.CodeWords': WHATEVER THE INPUT: true; the input reads as it did. -/
def codeWordsSpec : ChangeSpec := { name := "codeWords", fn := fun _ => fun
  | [d] => { results := [.lit (.bool true)], args := [d] }
  | _ => none }
def codeWordsRow : OpenClaim := { program := "ytkjcmppaapbabaadoor", sum := "061d80c4df2bbae4486f75a2bbde2d1acaa82c3ae22989418e52825554656394", func := "catscradle/catscradlelaw02.CodeWords", spec := "codeWords", unfollowed := true, recurses := true, named := ["internal/strconv.uint64pow10", "math/bits.deBruijn32tab", "math/bits.deBruijn64tab"], plainKeys := false, apart := false, laid := [("math/bits.deBruijn32tab", laid_math_bits_deBruijn32tab), ("math/bits.deBruijn64tab", laid_math_bits_deBruijn64tab), ("internal/strconv.uint64pow10", laid_internal_strconv_uint64pow10)] }
def CodeWordsSaid : Prop := codeWordsRow.holds Tryd.pinned (OpenSpec.ofChange codeWordsSpec)

/-- ITS FALSE NEIGHBOUR: 'it returns false'. Refute it at one input. -/
def codeWordsWrong : ChangeSpec := { name := "codeWords", fn := fun _ => fun
  | [d] => { results := [.lit (.bool false)], args := [d] }
  | _ => none }
def CodeWordsWrongFalsely : Prop := codeWordsRow.holds Tryd.pinned (OpenSpec.ofChange codeWordsWrong)

/-- 'catscradlelaw02.CodePrints': WHATEVER THE INPUT: true; the input reads as it did. -/
def codePrintsSpec : ChangeSpec := { name := "codePrints", fn := fun _ => fun
  | [d] => { results := [.lit (.bool true)], args := [d] }
  | _ => none }
def codePrintsRow : OpenClaim := { program := "ytkjcmppaapbabaadoor", sum := "061d80c4df2bbae4486f75a2bbde2d1acaa82c3ae22989418e52825554656394", func := "catscradle/catscradlelaw02.CodePrints", spec := "codePrints", inPlace := ["internal/bytealg.IndexByteString", "internal/bytealg.IndexString"], unfollowed := true, recurses := true, named := ["internal/strconv.uint64pow10", "math/bits.deBruijn32tab", "math/bits.deBruijn64tab", "internal/bytealg.MaxLen", "strconv.ErrSyntax", "strconv.ErrRange"], plainKeys := false, apart := false, laid := [("math/bits.deBruijn32tab", laid_math_bits_deBruijn32tab), ("math/bits.deBruijn64tab", laid_math_bits_deBruijn64tab), ("internal/strconv.uint64pow10", laid_internal_strconv_uint64pow10), ("strconv.ErrRange", laid_strconv_ErrRange), ("strconv.ErrSyntax", laid_strconv_ErrSyntax)] }
def CodePrintsSaid : Prop := codePrintsRow.holds Tryd.pinned (OpenSpec.ofChange codePrintsSpec)

/-- ITS FALSE NEIGHBOUR: 'it returns false'. Refute it at one input. -/
def codePrintsWrong : ChangeSpec := { name := "codePrints", fn := fun _ => fun
  | [d] => { results := [.lit (.bool false)], args := [d] }
  | _ => none }
def CodePrintsWrongFalsely : Prop := codePrintsRow.holds Tryd.pinned (OpenSpec.ofChange codePrintsWrong)

/-- 'catscradlelaw02.CodeParses': WHATEVER THE INPUT: true; the input reads as it did. -/
def codeParsesSpec : ChangeSpec := { name := "codeParses", fn := fun _ => fun
  | [d] => { results := [.lit (.bool true)], args := [d] }
  | _ => none }
def codeParsesRow : OpenClaim := { program := "ytkjcmppaapbabaadoor", sum := "061d80c4df2bbae4486f75a2bbde2d1acaa82c3ae22989418e52825554656394", func := "catscradle/catscradlelaw02.CodeParses", spec := "codeParses", inPlace := ["internal/bytealg.IndexByteString", "internal/bytealg.IndexString"], unfollowed := true, recurses := true, named := ["internal/strconv.uint64pow10", "math/bits.deBruijn32tab", "math/bits.deBruijn64tab", "internal/bytealg.MaxLen", "strconv.ErrSyntax", "strconv.ErrRange"], plainKeys := false, apart := false, laid := [("math/bits.deBruijn32tab", laid_math_bits_deBruijn32tab), ("math/bits.deBruijn64tab", laid_math_bits_deBruijn64tab), ("internal/strconv.uint64pow10", laid_internal_strconv_uint64pow10), ("strconv.ErrRange", laid_strconv_ErrRange), ("strconv.ErrSyntax", laid_strconv_ErrSyntax)] }
def CodeParsesSaid : Prop := codeParsesRow.holds Tryd.pinned (OpenSpec.ofChange codeParsesSpec)

/-- ITS FALSE NEIGHBOUR: 'it returns false'. Refute it at one input. -/
def codeParsesWrong : ChangeSpec := { name := "codeParses", fn := fun _ => fun
  | [d] => { results := [.lit (.bool false)], args := [d] }
  | _ => none }
def CodeParsesWrongFalsely : Prop := codeParsesRow.holds Tryd.pinned (OpenSpec.ofChange codeParsesWrong)

/- THE SECOND FORM. 'bulk': how many values and letters a reading holds, each counted each time it is reached (what is shared counts as often as it is met; a slice's spare places count too). A statement '..UptoSaid' is the law's where the arguments, and the package variables that the reading takes, are together of bulk at most 1048576: NARROWER than '..Said'. Prove '..Said' where nothing that the law and all that it calls make is longer than what came in: it says more and counts as full. Else prove '..UptoSaid'. A law counts once. -/
mutual
def uptoBulk {H : Type} : DataW H → Nat
  | .lit (.string bytes) => bytes.length + 1
  | .lit _ => 1
  | .nil => 1
  | .ptr d => uptoBulk d + 1
  | .slice elems spare => uptoBulkAll elems + uptoBulkAll spare + 1
  | .agg parts => uptoBulkAll parts + 1
  | .iface _ d => uptoBulk d + 1
  | .map entries => uptoBulkEntries entries + 1
  | .held _ => 1
def uptoBulkAll {H : Type} : List (DataW H) → Nat
  | [] => 0
  | d :: r => uptoBulk d + uptoBulkAll r
def uptoBulkEntries {H : Type} : List (Lit × DataW H) → Nat
  | [] => 0
  | x :: r => uptoBulkEntry x + uptoBulkEntries r
def uptoBulkEntry {H : Type} : Lit × DataW H → Nat
  | (.string bytes, d) => bytes.length + uptoBulk d + 1
  | (_, d) => uptoBulk d + 1
 end
def uptoSmall : (H : Type) → List (DataW H) → Bool := fun _ ds => decide (uptoBulkAll ds ≤ 1048576)
def OpenSpec.upto (s : _root_.Go.ChangeSpec) : _root_.Go.OpenSpec := { _root_.Go.OpenSpec.ofChange s with cond := some uptoSmall }

/-- 'catscradlelaw02.CodeFaces', WHERE WHAT IT READS IS OF BULK AT MOST 1048576: true; the input reads as it did. -/
def codeFacesUptoRow : OpenClaim := { program := "ytkjcmppaapbabaadoor", sum := "061d80c4df2bbae4486f75a2bbde2d1acaa82c3ae22989418e52825554656394", func := "catscradle/catscradlelaw02.CodeFaces", spec := "codeFaces", unfollowed := true, recurses := true, named := ["internal/strconv.uint64pow10", "math/bits.deBruijn32tab", "math/bits.deBruijn64tab"], plainKeys := false, apart := false, laid := [("math/bits.deBruijn32tab", laid_math_bits_deBruijn32tab), ("math/bits.deBruijn64tab", laid_math_bits_deBruijn64tab), ("internal/strconv.uint64pow10", laid_internal_strconv_uint64pow10)], narrowed := true }
def CodeFacesUptoSaid : Prop := codeFacesUptoRow.holds Tryd.pinned (OpenSpec.upto codeFacesSpec)

/-- 'catscradlelaw02.CodeChecks', WHERE WHAT IT READS IS OF BULK AT MOST 1048576: true; the input reads as it did. -/
def codeChecksUptoRow : OpenClaim := { program := "ytkjcmppaapbabaadoor", sum := "061d80c4df2bbae4486f75a2bbde2d1acaa82c3ae22989418e52825554656394", func := "catscradle/catscradlelaw02.CodeChecks", spec := "codeChecks", unfollowed := true, recurses := true, named := ["internal/strconv.uint64pow10", "math/bits.deBruijn32tab", "math/bits.deBruijn64tab"], plainKeys := false, apart := false, laid := [("math/bits.deBruijn32tab", laid_math_bits_deBruijn32tab), ("math/bits.deBruijn64tab", laid_math_bits_deBruijn64tab), ("internal/strconv.uint64pow10", laid_internal_strconv_uint64pow10)], narrowed := true }
def CodeChecksUptoSaid : Prop := codeChecksUptoRow.holds Tryd.pinned (OpenSpec.upto codeChecksSpec)

/-- 'catscradlelaw02.CodeEuler', WHERE WHAT IT READS IS OF BULK AT MOST 1048576: true; the input reads as it did. -/
def codeEulerUptoRow : OpenClaim := { program := "ytkjcmppaapbabaadoor", sum := "061d80c4df2bbae4486f75a2bbde2d1acaa82c3ae22989418e52825554656394", func := "catscradle/catscradlelaw02.CodeEuler", spec := "codeEuler", unfollowed := true, recurses := true, named := ["internal/strconv.uint64pow10", "math/bits.deBruijn32tab", "math/bits.deBruijn64tab"], plainKeys := false, apart := false, laid := [("math/bits.deBruijn32tab", laid_math_bits_deBruijn32tab), ("math/bits.deBruijn64tab", laid_math_bits_deBruijn64tab), ("internal/strconv.uint64pow10", laid_internal_strconv_uint64pow10)], narrowed := true }
def CodeEulerUptoSaid : Prop := codeEulerUptoRow.holds Tryd.pinned (OpenSpec.upto codeEulerSpec)

/-- 'catscradlelaw02.CodeCircles', WHERE WHAT IT READS IS OF BULK AT MOST 1048576: true; the input reads as it did. -/
def codeCirclesUptoRow : OpenClaim := { program := "ytkjcmppaapbabaadoor", sum := "061d80c4df2bbae4486f75a2bbde2d1acaa82c3ae22989418e52825554656394", func := "catscradle/catscradlelaw02.CodeCircles", spec := "codeCircles", unfollowed := true, recurses := true, named := ["internal/strconv.uint64pow10", "math/bits.deBruijn32tab", "math/bits.deBruijn64tab"], plainKeys := false, apart := false, laid := [("math/bits.deBruijn32tab", laid_math_bits_deBruijn32tab), ("math/bits.deBruijn64tab", laid_math_bits_deBruijn64tab), ("internal/strconv.uint64pow10", laid_internal_strconv_uint64pow10)], narrowed := true }
def CodeCirclesUptoSaid : Prop := codeCirclesUptoRow.holds Tryd.pinned (OpenSpec.upto codeCirclesSpec)

/-- 'catscradlelaw02.CodeFingers', WHERE WHAT IT READS IS OF BULK AT MOST 1048576: true; the input reads as it did. -/
def codeFingersUptoRow : OpenClaim := { program := "ytkjcmppaapbabaadoor", sum := "061d80c4df2bbae4486f75a2bbde2d1acaa82c3ae22989418e52825554656394", func := "catscradle/catscradlelaw02.CodeFingers", spec := "codeFingers", unfollowed := true, recurses := true, named := ["internal/strconv.uint64pow10", "math/bits.deBruijn32tab", "math/bits.deBruijn64tab"], plainKeys := false, apart := false, laid := [("math/bits.deBruijn32tab", laid_math_bits_deBruijn32tab), ("math/bits.deBruijn64tab", laid_math_bits_deBruijn64tab), ("internal/strconv.uint64pow10", laid_internal_strconv_uint64pow10)], narrowed := true }
def CodeFingersUptoSaid : Prop := codeFingersUptoRow.holds Tryd.pinned (OpenSpec.upto codeFingersSpec)

/-- 'catscradlelaw02.CodeTurns', WHERE WHAT IT READS IS OF BULK AT MOST 1048576: true; the input reads as it did. -/
def codeTurnsUptoRow : OpenClaim := { program := "ytkjcmppaapbabaadoor", sum := "061d80c4df2bbae4486f75a2bbde2d1acaa82c3ae22989418e52825554656394", func := "catscradle/catscradlelaw02.CodeTurns", spec := "codeTurns", unfollowed := true, recurses := true, named := ["internal/strconv.uint64pow10", "math/bits.deBruijn32tab", "math/bits.deBruijn64tab"], plainKeys := false, apart := false, laid := [("math/bits.deBruijn32tab", laid_math_bits_deBruijn32tab), ("math/bits.deBruijn64tab", laid_math_bits_deBruijn64tab), ("internal/strconv.uint64pow10", laid_internal_strconv_uint64pow10)], narrowed := true }
def CodeTurnsUptoSaid : Prop := codeTurnsUptoRow.holds Tryd.pinned (OpenSpec.upto codeTurnsSpec)

/-- 'catscradlelaw02.CodeNormals', WHERE WHAT IT READS IS OF BULK AT MOST 1048576: true; the input reads as it did. -/
def codeNormalsUptoRow : OpenClaim := { program := "ytkjcmppaapbabaadoor", sum := "061d80c4df2bbae4486f75a2bbde2d1acaa82c3ae22989418e52825554656394", func := "catscradle/catscradlelaw02.CodeNormals", spec := "codeNormals", unfollowed := true, recurses := true, named := ["internal/strconv.uint64pow10", "math/bits.deBruijn32tab", "math/bits.deBruijn64tab"], plainKeys := false, apart := false, laid := [("math/bits.deBruijn32tab", laid_math_bits_deBruijn32tab), ("math/bits.deBruijn64tab", laid_math_bits_deBruijn64tab), ("internal/strconv.uint64pow10", laid_internal_strconv_uint64pow10)], narrowed := true }
def CodeNormalsUptoSaid : Prop := codeNormalsUptoRow.holds Tryd.pinned (OpenSpec.upto codeNormalsSpec)

/-- 'catscradlelaw02.CodeSame', WHERE WHAT IT READS IS OF BULK AT MOST 1048576: true; the input reads as it did. -/
def codeSameUptoRow : OpenClaim := { program := "ytkjcmppaapbabaadoor", sum := "061d80c4df2bbae4486f75a2bbde2d1acaa82c3ae22989418e52825554656394", func := "catscradle/catscradlelaw02.CodeSame", spec := "codeSame", unfollowed := true, recurses := true, named := ["internal/strconv.uint64pow10", "math/bits.deBruijn32tab", "math/bits.deBruijn64tab"], plainKeys := false, apart := false, laid := [("math/bits.deBruijn32tab", laid_math_bits_deBruijn32tab), ("math/bits.deBruijn64tab", laid_math_bits_deBruijn64tab), ("internal/strconv.uint64pow10", laid_internal_strconv_uint64pow10)], narrowed := true }
def CodeSameUptoSaid : Prop := codeSameUptoRow.holds Tryd.pinned (OpenSpec.upto codeSameSpec)

/-- 'catscradlelaw02.CodePlain', WHERE WHAT IT READS IS OF BULK AT MOST 1048576: true; the input reads as it did. -/
def codePlainUptoRow : OpenClaim := { program := "ytkjcmppaapbabaadoor", sum := "061d80c4df2bbae4486f75a2bbde2d1acaa82c3ae22989418e52825554656394", func := "catscradle/catscradlelaw02.CodePlain", spec := "codePlain", unfollowed := true, recurses := true, named := ["internal/strconv.uint64pow10", "math/bits.deBruijn32tab", "math/bits.deBruijn64tab"], plainKeys := false, apart := false, laid := [("math/bits.deBruijn32tab", laid_math_bits_deBruijn32tab), ("math/bits.deBruijn64tab", laid_math_bits_deBruijn64tab), ("internal/strconv.uint64pow10", laid_internal_strconv_uint64pow10)], narrowed := true }
def CodePlainUptoSaid : Prop := codePlainUptoRow.holds Tryd.pinned (OpenSpec.upto codePlainSpec)

/-- 'catscradlelaw02.CodeOwn', WHERE WHAT IT READS IS OF BULK AT MOST 1048576: true; the input reads as it did. -/
def codeOwnUptoRow : OpenClaim := { program := "ytkjcmppaapbabaadoor", sum := "061d80c4df2bbae4486f75a2bbde2d1acaa82c3ae22989418e52825554656394", func := "catscradle/catscradlelaw02.CodeOwn", spec := "codeOwn", unfollowed := true, recurses := true, named := ["internal/strconv.uint64pow10", "math/bits.deBruijn32tab", "math/bits.deBruijn64tab"], plainKeys := false, apart := false, laid := [("math/bits.deBruijn32tab", laid_math_bits_deBruijn32tab), ("math/bits.deBruijn64tab", laid_math_bits_deBruijn64tab), ("internal/strconv.uint64pow10", laid_internal_strconv_uint64pow10)], narrowed := true }
def CodeOwnUptoSaid : Prop := codeOwnUptoRow.holds Tryd.pinned (OpenSpec.upto codeOwnSpec)

/-- 'catscradlelaw02.CodeStarts', WHERE WHAT IT READS IS OF BULK AT MOST 1048576: true; the input reads as it did. -/
def codeStartsUptoRow : OpenClaim := { program := "ytkjcmppaapbabaadoor", sum := "061d80c4df2bbae4486f75a2bbde2d1acaa82c3ae22989418e52825554656394", func := "catscradle/catscradlelaw02.CodeStarts", spec := "codeStarts", unfollowed := true, recurses := true, named := ["internal/strconv.uint64pow10", "math/bits.deBruijn32tab", "math/bits.deBruijn64tab"], plainKeys := false, apart := false, laid := [("math/bits.deBruijn32tab", laid_math_bits_deBruijn32tab), ("math/bits.deBruijn64tab", laid_math_bits_deBruijn64tab), ("internal/strconv.uint64pow10", laid_internal_strconv_uint64pow10)], narrowed := true }
def CodeStartsUptoSaid : Prop := codeStartsUptoRow.holds Tryd.pinned (OpenSpec.upto codeStartsSpec)

/-- 'catscradlelaw02.CodeGroup', WHERE WHAT IT READS IS OF BULK AT MOST 1048576: true; the input reads as it did. -/
def codeGroupUptoRow : OpenClaim := { program := "ytkjcmppaapbabaadoor", sum := "061d80c4df2bbae4486f75a2bbde2d1acaa82c3ae22989418e52825554656394", func := "catscradle/catscradlelaw02.CodeGroup", spec := "codeGroup", unfollowed := true, recurses := true, named := ["internal/strconv.uint64pow10", "math/bits.deBruijn32tab", "math/bits.deBruijn64tab"], plainKeys := false, apart := false, laid := [("math/bits.deBruijn32tab", laid_math_bits_deBruijn32tab), ("math/bits.deBruijn64tab", laid_math_bits_deBruijn64tab), ("internal/strconv.uint64pow10", laid_internal_strconv_uint64pow10)], narrowed := true }
def CodeGroupUptoSaid : Prop := codeGroupUptoRow.holds Tryd.pinned (OpenSpec.upto codeGroupSpec)

/-- 'catscradlelaw02.CodeForgets', WHERE WHAT IT READS IS OF BULK AT MOST 1048576: true; the input reads as it did. -/
def codeForgetsUptoRow : OpenClaim := { program := "ytkjcmppaapbabaadoor", sum := "061d80c4df2bbae4486f75a2bbde2d1acaa82c3ae22989418e52825554656394", func := "catscradle/catscradlelaw02.CodeForgets", spec := "codeForgets", unfollowed := true, recurses := true, named := ["internal/strconv.uint64pow10", "math/bits.deBruijn32tab", "math/bits.deBruijn64tab"], plainKeys := false, apart := false, laid := [("math/bits.deBruijn32tab", laid_math_bits_deBruijn32tab), ("math/bits.deBruijn64tab", laid_math_bits_deBruijn64tab), ("internal/strconv.uint64pow10", laid_internal_strconv_uint64pow10)], narrowed := true }
def CodeForgetsUptoSaid : Prop := codeForgetsUptoRow.holds Tryd.pinned (OpenSpec.upto codeForgetsSpec)

/-- 'catscradlelaw02.CodeErrors', WHERE WHAT IT READS IS OF BULK AT MOST 1048576: true; the input reads as it did. -/
def codeErrorsUptoRow : OpenClaim := { program := "ytkjcmppaapbabaadoor", sum := "061d80c4df2bbae4486f75a2bbde2d1acaa82c3ae22989418e52825554656394", func := "catscradle/catscradlelaw02.CodeErrors", spec := "codeErrors", unfollowed := true, recurses := true, named := ["internal/strconv.uint64pow10", "math/bits.deBruijn32tab", "math/bits.deBruijn64tab"], plainKeys := false, apart := false, laid := [("math/bits.deBruijn32tab", laid_math_bits_deBruijn32tab), ("math/bits.deBruijn64tab", laid_math_bits_deBruijn64tab), ("internal/strconv.uint64pow10", laid_internal_strconv_uint64pow10)], narrowed := true }
def CodeErrorsUptoSaid : Prop := codeErrorsUptoRow.holds Tryd.pinned (OpenSpec.upto codeErrorsSpec)

/-- 'catscradlelaw02.CodeWords', WHERE WHAT IT READS IS OF BULK AT MOST 1048576: true; the input reads as it did. -/
def codeWordsUptoRow : OpenClaim := { program := "ytkjcmppaapbabaadoor", sum := "061d80c4df2bbae4486f75a2bbde2d1acaa82c3ae22989418e52825554656394", func := "catscradle/catscradlelaw02.CodeWords", spec := "codeWords", unfollowed := true, recurses := true, named := ["internal/strconv.uint64pow10", "math/bits.deBruijn32tab", "math/bits.deBruijn64tab"], plainKeys := false, apart := false, laid := [("math/bits.deBruijn32tab", laid_math_bits_deBruijn32tab), ("math/bits.deBruijn64tab", laid_math_bits_deBruijn64tab), ("internal/strconv.uint64pow10", laid_internal_strconv_uint64pow10)], narrowed := true }
def CodeWordsUptoSaid : Prop := codeWordsUptoRow.holds Tryd.pinned (OpenSpec.upto codeWordsSpec)

/-- 'catscradlelaw02.CodePrints', WHERE WHAT IT READS IS OF BULK AT MOST 1048576: true; the input reads as it did. -/
def codePrintsUptoRow : OpenClaim := { program := "ytkjcmppaapbabaadoor", sum := "061d80c4df2bbae4486f75a2bbde2d1acaa82c3ae22989418e52825554656394", func := "catscradle/catscradlelaw02.CodePrints", spec := "codePrints", inPlace := ["internal/bytealg.IndexByteString", "internal/bytealg.IndexString"], unfollowed := true, recurses := true, named := ["internal/strconv.uint64pow10", "math/bits.deBruijn32tab", "math/bits.deBruijn64tab", "internal/bytealg.MaxLen", "strconv.ErrSyntax", "strconv.ErrRange"], plainKeys := false, apart := false, laid := [("math/bits.deBruijn32tab", laid_math_bits_deBruijn32tab), ("math/bits.deBruijn64tab", laid_math_bits_deBruijn64tab), ("internal/strconv.uint64pow10", laid_internal_strconv_uint64pow10), ("strconv.ErrRange", laid_strconv_ErrRange), ("strconv.ErrSyntax", laid_strconv_ErrSyntax)], narrowed := true }
def CodePrintsUptoSaid : Prop := codePrintsUptoRow.holds Tryd.pinned (OpenSpec.upto codePrintsSpec)

/-- 'catscradlelaw02.CodeParses', WHERE WHAT IT READS IS OF BULK AT MOST 1048576: true; the input reads as it did. -/
def codeParsesUptoRow : OpenClaim := { program := "ytkjcmppaapbabaadoor", sum := "061d80c4df2bbae4486f75a2bbde2d1acaa82c3ae22989418e52825554656394", func := "catscradle/catscradlelaw02.CodeParses", spec := "codeParses", inPlace := ["internal/bytealg.IndexByteString", "internal/bytealg.IndexString"], unfollowed := true, recurses := true, named := ["internal/strconv.uint64pow10", "math/bits.deBruijn32tab", "math/bits.deBruijn64tab", "internal/bytealg.MaxLen", "strconv.ErrSyntax", "strconv.ErrRange"], plainKeys := false, apart := false, laid := [("math/bits.deBruijn32tab", laid_math_bits_deBruijn32tab), ("math/bits.deBruijn64tab", laid_math_bits_deBruijn64tab), ("internal/strconv.uint64pow10", laid_internal_strconv_uint64pow10), ("strconv.ErrRange", laid_strconv_ErrRange), ("strconv.ErrSyntax", laid_strconv_ErrSyntax)], narrowed := true }
def CodeParsesUptoSaid : Prop := codeParsesUptoRow.holds Tryd.pinned (OpenSpec.upto codeParsesSpec)

end Rows
end Go.Proofs.YtkjcmppaapbabaaDoor
