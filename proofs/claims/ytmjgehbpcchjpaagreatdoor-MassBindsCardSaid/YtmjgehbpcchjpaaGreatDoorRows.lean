/-
  NARROWER THAN 'FOR EVERY INPUT', by the rows' own cells (each row's printed sentence says how): MassSums: loops, laid · MassAnswers: loops, laid · MassTexts: loops, laid · MassRight: loops, laid · MassMonoid: loops, laid · MassAnswered: loops, laid · MassTells: loops, laid · MassBinds: loops, laid · MassMonad: loops, laid · MassWhole: loops, laid · MassOwn: loops, laid.
  DERIVED. THE GIVEN ROWS OF THIS SEAT. 11 by the template 'for every input the law returns true; each argument reads behind the call as it read before'; 0 by the template 'total and deterministic' (their statements: YtmjgehbpcchjpaaGreatDoorTotals.lean).
  GIVEN WITH THE SEED: the statements are not yours to turn. If you find one false, say at which input.
  Laid BY PROGRAM, IN A SANDBOX (cutbox-rows.mjs): the forced cells as the released guide's own fill.sh prints them over the translation 53848b3cc8fba8d8… (all of the seat's roots in one cut). By AI agents, Wed Nov 11 2026. No macro, syntax, notation, axiom, sorry.
-/
import Derived.Test.YtmjgehbpcchjpaaGreatDoorChecked
import GoSem.Claim
import GoSem.ClaimJoined
import GoSem.ClaimMapViews
import Derived.JoinedTies
import Derived.KernelRfl
namespace Go.Proofs.YtmjgehbpcchjpaaGreatDoor
/- THE CELL 'sum', in the pinned program and in every row, IS THE sha256 OF THE DUMP (.gsa) THAT YtmjgehbpcchjpaaGreatDoorProg.lean LOADS. Nothing in Lean hashes anything: it is a label: what it is worth is what the hold of that sum in a sandbox is worth. -/
noncomputable def Tryz.pinned : Pinned := { name := "ytmjgehbpcchjpaagreatdoor", sum := "53848b3cc8fba8d800bd3bd7a4ac5c19abeeb380623091d0b091d14bbfc7327e", checked := Tryz.checked }
namespace Rows
def none {H : Type} : Left H := { results := [], args := [] }

/- WHAT THE LISTED PACKAGE-LEVEL VARIABLES READ AS WHEN THE CALL BEGINS. Each datum BY PROGRAM (the guide's laid-datum.mjs) off the statement by which the dump's own 'gosem.cut.vars' lays the variable. In a bare row this is a premise. The card (YtmjgehbpcchjpaaGreatDoorCards.lean) ties it to the program's text. -/
def laid_math_bits_deBruijn32tab {H : Type} : DataW H := .agg [.lit (.int .u8 0), .lit (.int .u8 1), .lit (.int .u8 28), .lit (.int .u8 2), .lit (.int .u8 29), .lit (.int .u8 14), .lit (.int .u8 24), .lit (.int .u8 3), .lit (.int .u8 30), .lit (.int .u8 22), .lit (.int .u8 20), .lit (.int .u8 15), .lit (.int .u8 25), .lit (.int .u8 17), .lit (.int .u8 4), .lit (.int .u8 8), .lit (.int .u8 31), .lit (.int .u8 27), .lit (.int .u8 13), .lit (.int .u8 23), .lit (.int .u8 21), .lit (.int .u8 19), .lit (.int .u8 16), .lit (.int .u8 7), .lit (.int .u8 26), .lit (.int .u8 12), .lit (.int .u8 18), .lit (.int .u8 6), .lit (.int .u8 11), .lit (.int .u8 5), .lit (.int .u8 10), .lit (.int .u8 9)]
def laid_math_bits_deBruijn64tab {H : Type} : DataW H := .agg [.lit (.int .u8 0), .lit (.int .u8 1), .lit (.int .u8 56), .lit (.int .u8 2), .lit (.int .u8 57), .lit (.int .u8 49), .lit (.int .u8 28), .lit (.int .u8 3), .lit (.int .u8 61), .lit (.int .u8 58), .lit (.int .u8 42), .lit (.int .u8 50), .lit (.int .u8 38), .lit (.int .u8 29), .lit (.int .u8 17), .lit (.int .u8 4), .lit (.int .u8 62), .lit (.int .u8 47), .lit (.int .u8 59), .lit (.int .u8 36), .lit (.int .u8 45), .lit (.int .u8 43), .lit (.int .u8 51), .lit (.int .u8 22), .lit (.int .u8 53), .lit (.int .u8 39), .lit (.int .u8 33), .lit (.int .u8 30), .lit (.int .u8 24), .lit (.int .u8 18), .lit (.int .u8 12), .lit (.int .u8 5), .lit (.int .u8 63), .lit (.int .u8 55), .lit (.int .u8 48), .lit (.int .u8 27), .lit (.int .u8 60), .lit (.int .u8 41), .lit (.int .u8 37), .lit (.int .u8 16), .lit (.int .u8 46), .lit (.int .u8 35), .lit (.int .u8 44), .lit (.int .u8 21), .lit (.int .u8 52), .lit (.int .u8 32), .lit (.int .u8 23), .lit (.int .u8 11), .lit (.int .u8 54), .lit (.int .u8 26), .lit (.int .u8 40), .lit (.int .u8 15), .lit (.int .u8 34), .lit (.int .u8 20), .lit (.int .u8 31), .lit (.int .u8 10), .lit (.int .u8 25), .lit (.int .u8 14), .lit (.int .u8 19), .lit (.int .u8 9), .lit (.int .u8 13), .lit (.int .u8 8), .lit (.int .u8 7), .lit (.int .u8 6)]
def laid_internal_strconv_uint64pow10 {H : Type} : DataW H := .agg [.lit (.int .u64 1), .lit (.int .u64 10), .lit (.int .u64 100), .lit (.int .u64 1000), .lit (.int .u64 10000), .lit (.int .u64 100000), .lit (.int .u64 1000000), .lit (.int .u64 10000000), .lit (.int .u64 100000000), .lit (.int .u64 1000000000), .lit (.int .u64 10000000000), .lit (.int .u64 100000000000), .lit (.int .u64 1000000000000), .lit (.int .u64 10000000000000), .lit (.int .u64 100000000000000), .lit (.int .u64 1000000000000000), .lit (.int .u64 10000000000000000), .lit (.int .u64 100000000000000000), .lit (.int .u64 1000000000000000000), .lit (.int .u64 10000000000000000000)]

/-- 'sortilegelaw04.MassSums': WHATEVER THE INPUT: true; the input reads as it did. -/
def massSumsSpec : ChangeSpec := { name := "massSums", fn := fun _ => fun
  | [d1, d2, d3] => { results := [.lit (.bool true)], args := [d1, d2, d3] }
  | _ => none }
def massSumsRow : OpenClaim := { program := "ytmjgehbpcchjpaagreatdoor", sum := "53848b3cc8fba8d800bd3bd7a4ac5c19abeeb380623091d0b091d14bbfc7327e", func := "sortilege/sortilegelaw04.MassSums", spec := "massSums", inPlace := ["internal/abi.NoEscape", "internal/bytealg.MakeNoZero"], unfollowed := true, recurses := true, named := ["internal/strconv.uint64pow10", "math/bits.deBruijn32tab", "math/bits.deBruijn64tab"], loops := true, apart := false, laid := [("math/bits.deBruijn32tab", laid_math_bits_deBruijn32tab), ("math/bits.deBruijn64tab", laid_math_bits_deBruijn64tab), ("internal/strconv.uint64pow10", laid_internal_strconv_uint64pow10)] }
def MassSumsSaid : Prop := massSumsRow.holds Tryz.pinned (OpenSpec.ofChange massSumsSpec)

/-- ITS FALSE NEIGHBOUR: 'it returns false'. Refute it at one input. -/
def massSumsWrong : ChangeSpec := { name := "massSums", fn := fun _ => fun
  | [d1, d2, d3] => { results := [.lit (.bool false)], args := [d1, d2, d3] }
  | _ => none }
def MassSumsWrongFalsely : Prop := massSumsRow.holds Tryz.pinned (OpenSpec.ofChange massSumsWrong)

/-- 'sortilegelaw04.MassAnswers': WHATEVER THE INPUT: true; the input reads as it did. -/
def massAnswersSpec : ChangeSpec := { name := "massAnswers", fn := fun _ => fun
  | [d1, d2] => { results := [.lit (.bool true)], args := [d1, d2] }
  | _ => none }
def massAnswersRow : OpenClaim := { program := "ytmjgehbpcchjpaagreatdoor", sum := "53848b3cc8fba8d800bd3bd7a4ac5c19abeeb380623091d0b091d14bbfc7327e", func := "sortilege/sortilegelaw04.MassAnswers", spec := "massAnswers", inPlace := ["internal/abi.NoEscape", "internal/bytealg.MakeNoZero"], unfollowed := true, recurses := true, named := ["internal/strconv.uint64pow10", "math/bits.deBruijn32tab", "math/bits.deBruijn64tab"], loops := true, apart := false, laid := [("math/bits.deBruijn32tab", laid_math_bits_deBruijn32tab), ("math/bits.deBruijn64tab", laid_math_bits_deBruijn64tab), ("internal/strconv.uint64pow10", laid_internal_strconv_uint64pow10)] }
def MassAnswersSaid : Prop := massAnswersRow.holds Tryz.pinned (OpenSpec.ofChange massAnswersSpec)

/-- ITS FALSE NEIGHBOUR: 'it returns false'. Refute it at one input. -/
def massAnswersWrong : ChangeSpec := { name := "massAnswers", fn := fun _ => fun
  | [d1, d2] => { results := [.lit (.bool false)], args := [d1, d2] }
  | _ => none }
def MassAnswersWrongFalsely : Prop := massAnswersRow.holds Tryz.pinned (OpenSpec.ofChange massAnswersWrong)

/-- 'sortilegelaw04.MassTexts': WHATEVER THE INPUT: true; the input reads as it did. -/
def massTextsSpec : ChangeSpec := { name := "massTexts", fn := fun _ => fun
  | [d1, d2] => { results := [.lit (.bool true)], args := [d1, d2] }
  | _ => none }
def massTextsRow : OpenClaim := { program := "ytmjgehbpcchjpaagreatdoor", sum := "53848b3cc8fba8d800bd3bd7a4ac5c19abeeb380623091d0b091d14bbfc7327e", func := "sortilege/sortilegelaw04.MassTexts", spec := "massTexts", inPlace := ["internal/abi.NoEscape", "internal/bytealg.MakeNoZero"], unfollowed := true, recurses := true, named := ["internal/strconv.uint64pow10", "math/bits.deBruijn32tab", "math/bits.deBruijn64tab"], loops := true, apart := false, laid := [("math/bits.deBruijn32tab", laid_math_bits_deBruijn32tab), ("math/bits.deBruijn64tab", laid_math_bits_deBruijn64tab), ("internal/strconv.uint64pow10", laid_internal_strconv_uint64pow10)] }
def MassTextsSaid : Prop := massTextsRow.holds Tryz.pinned (OpenSpec.ofChange massTextsSpec)

/-- ITS FALSE NEIGHBOUR: 'it returns false'. Refute it at one input. -/
def massTextsWrong : ChangeSpec := { name := "massTexts", fn := fun _ => fun
  | [d1, d2] => { results := [.lit (.bool false)], args := [d1, d2] }
  | _ => none }
def MassTextsWrongFalsely : Prop := massTextsRow.holds Tryz.pinned (OpenSpec.ofChange massTextsWrong)

/-- 'sortilegelaw04.MassRight': WHATEVER THE INPUT: true; the input reads as it did. -/
def massRightSpec : ChangeSpec := { name := "massRight", fn := fun _ => fun
  | [d1, d2, d3] => { results := [.lit (.bool true)], args := [d1, d2, d3] }
  | _ => none }
def massRightRow : OpenClaim := { program := "ytmjgehbpcchjpaagreatdoor", sum := "53848b3cc8fba8d800bd3bd7a4ac5c19abeeb380623091d0b091d14bbfc7327e", func := "sortilege/sortilegelaw04.MassRight", spec := "massRight", inPlace := ["internal/abi.NoEscape", "internal/bytealg.MakeNoZero"], unfollowed := true, recurses := true, named := ["internal/strconv.uint64pow10", "math/bits.deBruijn32tab", "math/bits.deBruijn64tab"], loops := true, apart := false, laid := [("math/bits.deBruijn32tab", laid_math_bits_deBruijn32tab), ("math/bits.deBruijn64tab", laid_math_bits_deBruijn64tab), ("internal/strconv.uint64pow10", laid_internal_strconv_uint64pow10)] }
def MassRightSaid : Prop := massRightRow.holds Tryz.pinned (OpenSpec.ofChange massRightSpec)

/-- ITS FALSE NEIGHBOUR: 'it returns false'. Refute it at one input. -/
def massRightWrong : ChangeSpec := { name := "massRight", fn := fun _ => fun
  | [d1, d2, d3] => { results := [.lit (.bool false)], args := [d1, d2, d3] }
  | _ => none }
def MassRightWrongFalsely : Prop := massRightRow.holds Tryz.pinned (OpenSpec.ofChange massRightWrong)

/-- 'sortilegelaw04.MassMonoid': WHATEVER THE INPUT: true; the input reads as it did. -/
def massMonoidSpec : ChangeSpec := { name := "massMonoid", fn := fun _ => fun
  | [d1, d2, d3] => { results := [.lit (.bool true)], args := [d1, d2, d3] }
  | _ => none }
def massMonoidRow : OpenClaim := { program := "ytmjgehbpcchjpaagreatdoor", sum := "53848b3cc8fba8d800bd3bd7a4ac5c19abeeb380623091d0b091d14bbfc7327e", func := "sortilege/sortilegelaw04.MassMonoid", spec := "massMonoid", inPlace := ["internal/abi.NoEscape", "internal/bytealg.MakeNoZero"], unfollowed := true, recurses := true, named := ["internal/strconv.uint64pow10", "math/bits.deBruijn32tab", "math/bits.deBruijn64tab"], loops := true, apart := false, laid := [("math/bits.deBruijn32tab", laid_math_bits_deBruijn32tab), ("math/bits.deBruijn64tab", laid_math_bits_deBruijn64tab), ("internal/strconv.uint64pow10", laid_internal_strconv_uint64pow10)] }
def MassMonoidSaid : Prop := massMonoidRow.holds Tryz.pinned (OpenSpec.ofChange massMonoidSpec)

/-- ITS FALSE NEIGHBOUR: 'it returns false'. Refute it at one input. -/
def massMonoidWrong : ChangeSpec := { name := "massMonoid", fn := fun _ => fun
  | [d1, d2, d3] => { results := [.lit (.bool false)], args := [d1, d2, d3] }
  | _ => none }
def MassMonoidWrongFalsely : Prop := massMonoidRow.holds Tryz.pinned (OpenSpec.ofChange massMonoidWrong)

/-- 'sortilegelaw04.MassAnswered': WHATEVER THE INPUT: true; the input reads as it did. -/
def massAnsweredSpec : ChangeSpec := { name := "massAnswered", fn := fun _ => fun
  | [d1, d2] => { results := [.lit (.bool true)], args := [d1, d2] }
  | _ => none }
def massAnsweredRow : OpenClaim := { program := "ytmjgehbpcchjpaagreatdoor", sum := "53848b3cc8fba8d800bd3bd7a4ac5c19abeeb380623091d0b091d14bbfc7327e", func := "sortilege/sortilegelaw04.MassAnswered", spec := "massAnswered", inPlace := ["internal/abi.NoEscape", "internal/bytealg.MakeNoZero"], unfollowed := true, recurses := true, named := ["internal/strconv.uint64pow10", "math/bits.deBruijn32tab", "math/bits.deBruijn64tab"], loops := true, apart := false, laid := [("math/bits.deBruijn32tab", laid_math_bits_deBruijn32tab), ("math/bits.deBruijn64tab", laid_math_bits_deBruijn64tab), ("internal/strconv.uint64pow10", laid_internal_strconv_uint64pow10)] }
def MassAnsweredSaid : Prop := massAnsweredRow.holds Tryz.pinned (OpenSpec.ofChange massAnsweredSpec)

/-- ITS FALSE NEIGHBOUR: 'it returns false'. Refute it at one input. -/
def massAnsweredWrong : ChangeSpec := { name := "massAnswered", fn := fun _ => fun
  | [d1, d2] => { results := [.lit (.bool false)], args := [d1, d2] }
  | _ => none }
def MassAnsweredWrongFalsely : Prop := massAnsweredRow.holds Tryz.pinned (OpenSpec.ofChange massAnsweredWrong)

/-- 'sortilegelaw04.MassTells': WHATEVER THE INPUT: true; the input reads as it did. -/
def massTellsSpec : ChangeSpec := { name := "massTells", fn := fun _ => fun
  | [d1, d2, d3] => { results := [.lit (.bool true)], args := [d1, d2, d3] }
  | _ => none }
def massTellsRow : OpenClaim := { program := "ytmjgehbpcchjpaagreatdoor", sum := "53848b3cc8fba8d800bd3bd7a4ac5c19abeeb380623091d0b091d14bbfc7327e", func := "sortilege/sortilegelaw04.MassTells", spec := "massTells", inPlace := ["internal/abi.NoEscape", "internal/bytealg.MakeNoZero"], unfollowed := true, recurses := true, named := ["internal/strconv.uint64pow10", "math/bits.deBruijn32tab", "math/bits.deBruijn64tab"], loops := true, apart := false, laid := [("math/bits.deBruijn32tab", laid_math_bits_deBruijn32tab), ("math/bits.deBruijn64tab", laid_math_bits_deBruijn64tab), ("internal/strconv.uint64pow10", laid_internal_strconv_uint64pow10)] }
def MassTellsSaid : Prop := massTellsRow.holds Tryz.pinned (OpenSpec.ofChange massTellsSpec)

/-- ITS FALSE NEIGHBOUR: 'it returns false'. Refute it at one input. -/
def massTellsWrong : ChangeSpec := { name := "massTells", fn := fun _ => fun
  | [d1, d2, d3] => { results := [.lit (.bool false)], args := [d1, d2, d3] }
  | _ => none }
def MassTellsWrongFalsely : Prop := massTellsRow.holds Tryz.pinned (OpenSpec.ofChange massTellsWrong)

/-- 'sortilegelaw04.MassBinds': WHATEVER THE INPUT: true; the input reads as it did. -/
def massBindsSpec : ChangeSpec := { name := "massBinds", fn := fun _ => fun
  | [d1, d2] => { results := [.lit (.bool true)], args := [d1, d2] }
  | _ => none }
def massBindsRow : OpenClaim := { program := "ytmjgehbpcchjpaagreatdoor", sum := "53848b3cc8fba8d800bd3bd7a4ac5c19abeeb380623091d0b091d14bbfc7327e", func := "sortilege/sortilegelaw04.MassBinds", spec := "massBinds", inPlace := ["internal/abi.NoEscape", "internal/bytealg.MakeNoZero"], unfollowed := true, recurses := true, named := ["internal/strconv.uint64pow10", "math/bits.deBruijn32tab", "math/bits.deBruijn64tab"], loops := true, apart := false, laid := [("math/bits.deBruijn32tab", laid_math_bits_deBruijn32tab), ("math/bits.deBruijn64tab", laid_math_bits_deBruijn64tab), ("internal/strconv.uint64pow10", laid_internal_strconv_uint64pow10)] }
def MassBindsSaid : Prop := massBindsRow.holds Tryz.pinned (OpenSpec.ofChange massBindsSpec)

/-- ITS FALSE NEIGHBOUR: 'it returns false'. Refute it at one input. -/
def massBindsWrong : ChangeSpec := { name := "massBinds", fn := fun _ => fun
  | [d1, d2] => { results := [.lit (.bool false)], args := [d1, d2] }
  | _ => none }
def MassBindsWrongFalsely : Prop := massBindsRow.holds Tryz.pinned (OpenSpec.ofChange massBindsWrong)

/-- 'sortilegelaw04.MassMonad': WHATEVER THE INPUT: true; the input reads as it did. -/
def massMonadSpec : ChangeSpec := { name := "massMonad", fn := fun _ => fun
  | [d1, d2, d3] => { results := [.lit (.bool true)], args := [d1, d2, d3] }
  | _ => none }
def massMonadRow : OpenClaim := { program := "ytmjgehbpcchjpaagreatdoor", sum := "53848b3cc8fba8d800bd3bd7a4ac5c19abeeb380623091d0b091d14bbfc7327e", func := "sortilege/sortilegelaw04.MassMonad", spec := "massMonad", inPlace := ["internal/abi.NoEscape", "internal/bytealg.MakeNoZero"], unfollowed := true, recurses := true, named := ["internal/strconv.uint64pow10", "math/bits.deBruijn32tab", "math/bits.deBruijn64tab"], loops := true, apart := false, laid := [("math/bits.deBruijn32tab", laid_math_bits_deBruijn32tab), ("math/bits.deBruijn64tab", laid_math_bits_deBruijn64tab), ("internal/strconv.uint64pow10", laid_internal_strconv_uint64pow10)] }
def MassMonadSaid : Prop := massMonadRow.holds Tryz.pinned (OpenSpec.ofChange massMonadSpec)

/-- ITS FALSE NEIGHBOUR: 'it returns false'. Refute it at one input. -/
def massMonadWrong : ChangeSpec := { name := "massMonad", fn := fun _ => fun
  | [d1, d2, d3] => { results := [.lit (.bool false)], args := [d1, d2, d3] }
  | _ => none }
def MassMonadWrongFalsely : Prop := massMonadRow.holds Tryz.pinned (OpenSpec.ofChange massMonadWrong)

/-- 'sortilegelaw04.MassWhole': WHATEVER THE INPUT: true; the input reads as it did. -/
def massWholeSpec : ChangeSpec := { name := "massWhole", fn := fun _ => fun
  | [d1, d2, d3] => { results := [.lit (.bool true)], args := [d1, d2, d3] }
  | _ => none }
def massWholeRow : OpenClaim := { program := "ytmjgehbpcchjpaagreatdoor", sum := "53848b3cc8fba8d800bd3bd7a4ac5c19abeeb380623091d0b091d14bbfc7327e", func := "sortilege/sortilegelaw04.MassWhole", spec := "massWhole", inPlace := ["internal/abi.NoEscape", "internal/bytealg.MakeNoZero"], unfollowed := true, recurses := true, named := ["internal/strconv.uint64pow10", "math/bits.deBruijn32tab", "math/bits.deBruijn64tab"], loops := true, apart := false, laid := [("math/bits.deBruijn32tab", laid_math_bits_deBruijn32tab), ("math/bits.deBruijn64tab", laid_math_bits_deBruijn64tab), ("internal/strconv.uint64pow10", laid_internal_strconv_uint64pow10)] }
def MassWholeSaid : Prop := massWholeRow.holds Tryz.pinned (OpenSpec.ofChange massWholeSpec)

/-- ITS FALSE NEIGHBOUR: 'it returns false'. Refute it at one input. -/
def massWholeWrong : ChangeSpec := { name := "massWhole", fn := fun _ => fun
  | [d1, d2, d3] => { results := [.lit (.bool false)], args := [d1, d2, d3] }
  | _ => none }
def MassWholeWrongFalsely : Prop := massWholeRow.holds Tryz.pinned (OpenSpec.ofChange massWholeWrong)

/-- 'sortilegelaw04.MassOwn': WHATEVER THE INPUT: true; the input reads as it did. -/
def massOwnSpec : ChangeSpec := { name := "massOwn", fn := fun _ => fun
  | [d1, d2, d3, d4] => { results := [.lit (.bool true)], args := [d1, d2, d3, d4] }
  | _ => none }
def massOwnRow : OpenClaim := { program := "ytmjgehbpcchjpaagreatdoor", sum := "53848b3cc8fba8d800bd3bd7a4ac5c19abeeb380623091d0b091d14bbfc7327e", func := "sortilege/sortilegelaw04.MassOwn", spec := "massOwn", inPlace := ["internal/abi.NoEscape", "internal/bytealg.MakeNoZero"], unfollowed := true, recurses := true, named := ["internal/strconv.uint64pow10", "math/bits.deBruijn32tab", "math/bits.deBruijn64tab"], loops := true, apart := false, laid := [("math/bits.deBruijn32tab", laid_math_bits_deBruijn32tab), ("math/bits.deBruijn64tab", laid_math_bits_deBruijn64tab), ("internal/strconv.uint64pow10", laid_internal_strconv_uint64pow10)] }
def MassOwnSaid : Prop := massOwnRow.holds Tryz.pinned (OpenSpec.ofChange massOwnSpec)

/-- ITS FALSE NEIGHBOUR: 'it returns false'. Refute it at one input. -/
def massOwnWrong : ChangeSpec := { name := "massOwn", fn := fun _ => fun
  | [d1, d2, d3, d4] => { results := [.lit (.bool false)], args := [d1, d2, d3, d4] }
  | _ => none }
def MassOwnWrongFalsely : Prop := massOwnRow.holds Tryz.pinned (OpenSpec.ofChange massOwnWrong)

/- THE SECOND FORM. 'bulk': how many values and letters a reading holds, each counted each time it is reached (what is shared counts as often as it is met; a slice's spare places count too). A statement '..UptoSaid' is the law's where the arguments, and the package variables that the reading takes, are together of bulk at most 1048576: NARROWER than '..Said'. Prove '..Said' where nothing that the law and all that it calls make is longer than what came in: it says more and counts as full. Else prove '..UptoSaid'. A law counts once. -/
mutual
def uptoBulk {H : Type} : DataW H → Nat
  | .lit (.string bytes) => bytes.length + 1
  | .lit _ => 1
  | .nil => 1
  | .ptr d => uptoBulk d + 1
  | .slice elems spare => uptoBulkAll elems + uptoBulkAll spare + 1
  | .agg parts => uptoBulkAll parts + 1
  | .iface _ d => uptoBulk d + 1
  | .map entries => uptoBulkEntries entries + 1
  | .held _ => 1
def uptoBulkAll {H : Type} : List (DataW H) → Nat
  | [] => 0
  | d :: r => uptoBulk d + uptoBulkAll r
def uptoBulkEntries {H : Type} : List (Lit × DataW H) → Nat
  | [] => 0
  | x :: r => uptoBulkEntry x + uptoBulkEntries r
def uptoBulkEntry {H : Type} : Lit × DataW H → Nat
  | (.string bytes, d) => bytes.length + uptoBulk d + 1
  | (_, d) => uptoBulk d + 1
 end
def uptoSmall : (H : Type) → List (DataW H) → Bool := fun _ ds => decide (uptoBulkAll ds ≤ 1048576)
def OpenSpec.upto (s : _root_.Go.ChangeSpec) : _root_.Go.OpenSpec := { _root_.Go.OpenSpec.ofChange s with cond := some uptoSmall }

/-- 'sortilegelaw04.MassSums', WHERE WHAT IT READS IS OF BULK AT MOST 1048576: true; the input reads as it did. -/
def massSumsUptoRow : OpenClaim := { program := "ytmjgehbpcchjpaagreatdoor", sum := "53848b3cc8fba8d800bd3bd7a4ac5c19abeeb380623091d0b091d14bbfc7327e", func := "sortilege/sortilegelaw04.MassSums", spec := "massSums", inPlace := ["internal/abi.NoEscape", "internal/bytealg.MakeNoZero"], unfollowed := true, recurses := true, named := ["internal/strconv.uint64pow10", "math/bits.deBruijn32tab", "math/bits.deBruijn64tab"], loops := true, apart := false, laid := [("math/bits.deBruijn32tab", laid_math_bits_deBruijn32tab), ("math/bits.deBruijn64tab", laid_math_bits_deBruijn64tab), ("internal/strconv.uint64pow10", laid_internal_strconv_uint64pow10)], narrowed := true }
def MassSumsUptoSaid : Prop := massSumsUptoRow.holds Tryz.pinned (OpenSpec.upto massSumsSpec)

/-- 'sortilegelaw04.MassAnswers', WHERE WHAT IT READS IS OF BULK AT MOST 1048576: true; the input reads as it did. -/
def massAnswersUptoRow : OpenClaim := { program := "ytmjgehbpcchjpaagreatdoor", sum := "53848b3cc8fba8d800bd3bd7a4ac5c19abeeb380623091d0b091d14bbfc7327e", func := "sortilege/sortilegelaw04.MassAnswers", spec := "massAnswers", inPlace := ["internal/abi.NoEscape", "internal/bytealg.MakeNoZero"], unfollowed := true, recurses := true, named := ["internal/strconv.uint64pow10", "math/bits.deBruijn32tab", "math/bits.deBruijn64tab"], loops := true, apart := false, laid := [("math/bits.deBruijn32tab", laid_math_bits_deBruijn32tab), ("math/bits.deBruijn64tab", laid_math_bits_deBruijn64tab), ("internal/strconv.uint64pow10", laid_internal_strconv_uint64pow10)], narrowed := true }
def MassAnswersUptoSaid : Prop := massAnswersUptoRow.holds Tryz.pinned (OpenSpec.upto massAnswersSpec)

/-- 'sortilegelaw04.MassTexts', WHERE WHAT IT READS IS OF BULK AT MOST 1048576: true; the input reads as it did. -/
def massTextsUptoRow : OpenClaim := { program := "ytmjgehbpcchjpaagreatdoor", sum := "53848b3cc8fba8d800bd3bd7a4ac5c19abeeb380623091d0b091d14bbfc7327e", func := "sortilege/sortilegelaw04.MassTexts", spec := "massTexts", inPlace := ["internal/abi.NoEscape", "internal/bytealg.MakeNoZero"], unfollowed := true, recurses := true, named := ["internal/strconv.uint64pow10", "math/bits.deBruijn32tab", "math/bits.deBruijn64tab"], loops := true, apart := false, laid := [("math/bits.deBruijn32tab", laid_math_bits_deBruijn32tab), ("math/bits.deBruijn64tab", laid_math_bits_deBruijn64tab), ("internal/strconv.uint64pow10", laid_internal_strconv_uint64pow10)], narrowed := true }
def MassTextsUptoSaid : Prop := massTextsUptoRow.holds Tryz.pinned (OpenSpec.upto massTextsSpec)

/-- 'sortilegelaw04.MassRight', WHERE WHAT IT READS IS OF BULK AT MOST 1048576: true; the input reads as it did. -/
def massRightUptoRow : OpenClaim := { program := "ytmjgehbpcchjpaagreatdoor", sum := "53848b3cc8fba8d800bd3bd7a4ac5c19abeeb380623091d0b091d14bbfc7327e", func := "sortilege/sortilegelaw04.MassRight", spec := "massRight", inPlace := ["internal/abi.NoEscape", "internal/bytealg.MakeNoZero"], unfollowed := true, recurses := true, named := ["internal/strconv.uint64pow10", "math/bits.deBruijn32tab", "math/bits.deBruijn64tab"], loops := true, apart := false, laid := [("math/bits.deBruijn32tab", laid_math_bits_deBruijn32tab), ("math/bits.deBruijn64tab", laid_math_bits_deBruijn64tab), ("internal/strconv.uint64pow10", laid_internal_strconv_uint64pow10)], narrowed := true }
def MassRightUptoSaid : Prop := massRightUptoRow.holds Tryz.pinned (OpenSpec.upto massRightSpec)

/-- 'sortilegelaw04.MassMonoid', WHERE WHAT IT READS IS OF BULK AT MOST 1048576: true; the input reads as it did. -/
def massMonoidUptoRow : OpenClaim := { program := "ytmjgehbpcchjpaagreatdoor", sum := "53848b3cc8fba8d800bd3bd7a4ac5c19abeeb380623091d0b091d14bbfc7327e", func := "sortilege/sortilegelaw04.MassMonoid", spec := "massMonoid", inPlace := ["internal/abi.NoEscape", "internal/bytealg.MakeNoZero"], unfollowed := true, recurses := true, named := ["internal/strconv.uint64pow10", "math/bits.deBruijn32tab", "math/bits.deBruijn64tab"], loops := true, apart := false, laid := [("math/bits.deBruijn32tab", laid_math_bits_deBruijn32tab), ("math/bits.deBruijn64tab", laid_math_bits_deBruijn64tab), ("internal/strconv.uint64pow10", laid_internal_strconv_uint64pow10)], narrowed := true }
def MassMonoidUptoSaid : Prop := massMonoidUptoRow.holds Tryz.pinned (OpenSpec.upto massMonoidSpec)

/-- 'sortilegelaw04.MassAnswered', WHERE WHAT IT READS IS OF BULK AT MOST 1048576: true; the input reads as it did. -/
def massAnsweredUptoRow : OpenClaim := { program := "ytmjgehbpcchjpaagreatdoor", sum := "53848b3cc8fba8d800bd3bd7a4ac5c19abeeb380623091d0b091d14bbfc7327e", func := "sortilege/sortilegelaw04.MassAnswered", spec := "massAnswered", inPlace := ["internal/abi.NoEscape", "internal/bytealg.MakeNoZero"], unfollowed := true, recurses := true, named := ["internal/strconv.uint64pow10", "math/bits.deBruijn32tab", "math/bits.deBruijn64tab"], loops := true, apart := false, laid := [("math/bits.deBruijn32tab", laid_math_bits_deBruijn32tab), ("math/bits.deBruijn64tab", laid_math_bits_deBruijn64tab), ("internal/strconv.uint64pow10", laid_internal_strconv_uint64pow10)], narrowed := true }
def MassAnsweredUptoSaid : Prop := massAnsweredUptoRow.holds Tryz.pinned (OpenSpec.upto massAnsweredSpec)

/-- 'sortilegelaw04.MassTells', WHERE WHAT IT READS IS OF BULK AT MOST 1048576: true; the input reads as it did. -/
def massTellsUptoRow : OpenClaim := { program := "ytmjgehbpcchjpaagreatdoor", sum := "53848b3cc8fba8d800bd3bd7a4ac5c19abeeb380623091d0b091d14bbfc7327e", func := "sortilege/sortilegelaw04.MassTells", spec := "massTells", inPlace := ["internal/abi.NoEscape", "internal/bytealg.MakeNoZero"], unfollowed := true, recurses := true, named := ["internal/strconv.uint64pow10", "math/bits.deBruijn32tab", "math/bits.deBruijn64tab"], loops := true, apart := false, laid := [("math/bits.deBruijn32tab", laid_math_bits_deBruijn32tab), ("math/bits.deBruijn64tab", laid_math_bits_deBruijn64tab), ("internal/strconv.uint64pow10", laid_internal_strconv_uint64pow10)], narrowed := true }
def MassTellsUptoSaid : Prop := massTellsUptoRow.holds Tryz.pinned (OpenSpec.upto massTellsSpec)

/-- 'sortilegelaw04.MassBinds', WHERE WHAT IT READS IS OF BULK AT MOST 1048576: true; the input reads as it did. -/
def massBindsUptoRow : OpenClaim := { program := "ytmjgehbpcchjpaagreatdoor", sum := "53848b3cc8fba8d800bd3bd7a4ac5c19abeeb380623091d0b091d14bbfc7327e", func := "sortilege/sortilegelaw04.MassBinds", spec := "massBinds", inPlace := ["internal/abi.NoEscape", "internal/bytealg.MakeNoZero"], unfollowed := true, recurses := true, named := ["internal/strconv.uint64pow10", "math/bits.deBruijn32tab", "math/bits.deBruijn64tab"], loops := true, apart := false, laid := [("math/bits.deBruijn32tab", laid_math_bits_deBruijn32tab), ("math/bits.deBruijn64tab", laid_math_bits_deBruijn64tab), ("internal/strconv.uint64pow10", laid_internal_strconv_uint64pow10)], narrowed := true }
def MassBindsUptoSaid : Prop := massBindsUptoRow.holds Tryz.pinned (OpenSpec.upto massBindsSpec)

/-- 'sortilegelaw04.MassMonad', WHERE WHAT IT READS IS OF BULK AT MOST 1048576: true; the input reads as it did. -/
def massMonadUptoRow : OpenClaim := { program := "ytmjgehbpcchjpaagreatdoor", sum := "53848b3cc8fba8d800bd3bd7a4ac5c19abeeb380623091d0b091d14bbfc7327e", func := "sortilege/sortilegelaw04.MassMonad", spec := "massMonad", inPlace := ["internal/abi.NoEscape", "internal/bytealg.MakeNoZero"], unfollowed := true, recurses := true, named := ["internal/strconv.uint64pow10", "math/bits.deBruijn32tab", "math/bits.deBruijn64tab"], loops := true, apart := false, laid := [("math/bits.deBruijn32tab", laid_math_bits_deBruijn32tab), ("math/bits.deBruijn64tab", laid_math_bits_deBruijn64tab), ("internal/strconv.uint64pow10", laid_internal_strconv_uint64pow10)], narrowed := true }
def MassMonadUptoSaid : Prop := massMonadUptoRow.holds Tryz.pinned (OpenSpec.upto massMonadSpec)

/-- 'sortilegelaw04.MassWhole', WHERE WHAT IT READS IS OF BULK AT MOST 1048576: true; the input reads as it did. -/
def massWholeUptoRow : OpenClaim := { program := "ytmjgehbpcchjpaagreatdoor", sum := "53848b3cc8fba8d800bd3bd7a4ac5c19abeeb380623091d0b091d14bbfc7327e", func := "sortilege/sortilegelaw04.MassWhole", spec := "massWhole", inPlace := ["internal/abi.NoEscape", "internal/bytealg.MakeNoZero"], unfollowed := true, recurses := true, named := ["internal/strconv.uint64pow10", "math/bits.deBruijn32tab", "math/bits.deBruijn64tab"], loops := true, apart := false, laid := [("math/bits.deBruijn32tab", laid_math_bits_deBruijn32tab), ("math/bits.deBruijn64tab", laid_math_bits_deBruijn64tab), ("internal/strconv.uint64pow10", laid_internal_strconv_uint64pow10)], narrowed := true }
def MassWholeUptoSaid : Prop := massWholeUptoRow.holds Tryz.pinned (OpenSpec.upto massWholeSpec)

/-- 'sortilegelaw04.MassOwn', WHERE WHAT IT READS IS OF BULK AT MOST 1048576: true; the input reads as it did. -/
def massOwnUptoRow : OpenClaim := { program := "ytmjgehbpcchjpaagreatdoor", sum := "53848b3cc8fba8d800bd3bd7a4ac5c19abeeb380623091d0b091d14bbfc7327e", func := "sortilege/sortilegelaw04.MassOwn", spec := "massOwn", inPlace := ["internal/abi.NoEscape", "internal/bytealg.MakeNoZero"], unfollowed := true, recurses := true, named := ["internal/strconv.uint64pow10", "math/bits.deBruijn32tab", "math/bits.deBruijn64tab"], loops := true, apart := false, laid := [("math/bits.deBruijn32tab", laid_math_bits_deBruijn32tab), ("math/bits.deBruijn64tab", laid_math_bits_deBruijn64tab), ("internal/strconv.uint64pow10", laid_internal_strconv_uint64pow10)], narrowed := true }
def MassOwnUptoSaid : Prop := massOwnUptoRow.holds Tryz.pinned (OpenSpec.upto massOwnSpec)

end Rows
end Go.Proofs.YtmjgehbpcchjpaaGreatDoor
