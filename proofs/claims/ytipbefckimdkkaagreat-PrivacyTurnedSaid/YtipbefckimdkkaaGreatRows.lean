/-
  NARROWER THAN 'FOR EVERY INPUT', by the rows' own cells (each row's printed sentence says how): PrivacyThird: loops · PrivacyCurves: loops · PrivacyMost: loops · PrivacyBoth: loops · PrivacyTwo: loops · PrivacyRests: loops · PrivacyFalls: loops · PrivacyTurns: loops · PrivacyTurned: loops.
  DERIVED. THE GIVEN ROWS OF THIS SEAT. 10 by the template 'for every input the law returns true; each argument reads behind the call as it read before'; 0 by the template 'total and deterministic' (their statements: YtipbefckimdkkaaGreatTotals.lean).
  GIVEN WITH THE SEED: the statements are not yours to turn. If you find one false, say at which input.
  Laid BY PROGRAM, IN A SANDBOX (cutbox-rows.mjs): the forced cells as the released guide's own fill.sh prints them over the translation 09e38f8545702242… (all of the seat's roots in one cut). By AI agents, Wed Nov 11 2026. No macro, syntax, notation, axiom, sorry.
-/
import Derived.Test.YtipbefckimdkkaaGreatChecked
import GoSem.Claim
import GoSem.ClaimJoined
import GoSem.ClaimMapViews
import Derived.JoinedTies
import Derived.KernelRfl
namespace Go.Proofs.YtipbefckimdkkaaGreat
/- THE CELL 'sum', in the pinned program and in every row, IS THE sha256 OF THE DUMP (.gsa) THAT YtipbefckimdkkaaGreatProg.lean LOADS. Nothing in Lean hashes anything: it is a label: what it is worth is what the hold of that sum in a sandbox is worth. -/
noncomputable def Tryz.pinned : Pinned := { name := "ytipbefckimdkkaagreat", sum := "09e38f8545702242137298db685852d31ca34e745396141e1d92f51558450dce", checked := Tryz.checked }
namespace Rows
def none {H : Type} : Left H := { results := [], args := [] }

/-- 'sortilegelaw36.PrivacyThird': WHATEVER THE INPUT: true; the input reads as it did. -/
def privacyThirdSpec : ChangeSpec := { name := "privacyThird", fn := fun _ => fun
  | [d1, d2, d3] => { results := [.lit (.bool true)], args := [d1, d2, d3] }
  | _ => none }
def privacyThirdRow : OpenClaim := { program := "ytipbefckimdkkaagreat", sum := "09e38f8545702242137298db685852d31ca34e745396141e1d92f51558450dce", func := "sortilege/sortilegelaw36.PrivacyThird", spec := "privacyThird", unfollowed := true, recurses := true, loops := true, apart := false }
def PrivacyThirdSaid : Prop := privacyThirdRow.holds Tryz.pinned (OpenSpec.ofChange privacyThirdSpec)

/-- ITS FALSE NEIGHBOUR: 'it returns false'. Refute it at one input. -/
def privacyThirdWrong : ChangeSpec := { name := "privacyThird", fn := fun _ => fun
  | [d1, d2, d3] => { results := [.lit (.bool false)], args := [d1, d2, d3] }
  | _ => none }
def PrivacyThirdWrongFalsely : Prop := privacyThirdRow.holds Tryz.pinned (OpenSpec.ofChange privacyThirdWrong)

/-- 'sortilegelaw36.PrivacyCurves': WHATEVER THE INPUT: true; the input reads as it did. -/
def privacyCurvesSpec : ChangeSpec := { name := "privacyCurves", fn := fun _ => fun
  | [d1, d2] => { results := [.lit (.bool true)], args := [d1, d2] }
  | _ => none }
def privacyCurvesRow : OpenClaim := { program := "ytipbefckimdkkaagreat", sum := "09e38f8545702242137298db685852d31ca34e745396141e1d92f51558450dce", func := "sortilege/sortilegelaw36.PrivacyCurves", spec := "privacyCurves", unfollowed := true, recurses := true, loops := true, apart := false }
def PrivacyCurvesSaid : Prop := privacyCurvesRow.holds Tryz.pinned (OpenSpec.ofChange privacyCurvesSpec)

/-- ITS FALSE NEIGHBOUR: 'it returns false'. Refute it at one input. -/
def privacyCurvesWrong : ChangeSpec := { name := "privacyCurves", fn := fun _ => fun
  | [d1, d2] => { results := [.lit (.bool false)], args := [d1, d2] }
  | _ => none }
def PrivacyCurvesWrongFalsely : Prop := privacyCurvesRow.holds Tryz.pinned (OpenSpec.ofChange privacyCurvesWrong)

/-- 'sortilegelaw36.PrivacyMost': WHATEVER THE INPUT: true; the input reads as it did. -/
def privacyMostSpec : ChangeSpec := { name := "privacyMost", fn := fun _ => fun
  | [d1, d2, d3] => { results := [.lit (.bool true)], args := [d1, d2, d3] }
  | _ => none }
def privacyMostRow : OpenClaim := { program := "ytipbefckimdkkaagreat", sum := "09e38f8545702242137298db685852d31ca34e745396141e1d92f51558450dce", func := "sortilege/sortilegelaw36.PrivacyMost", spec := "privacyMost", unfollowed := true, recurses := true, loops := true, apart := false }
def PrivacyMostSaid : Prop := privacyMostRow.holds Tryz.pinned (OpenSpec.ofChange privacyMostSpec)

/-- ITS FALSE NEIGHBOUR: 'it returns false'. Refute it at one input. -/
def privacyMostWrong : ChangeSpec := { name := "privacyMost", fn := fun _ => fun
  | [d1, d2, d3] => { results := [.lit (.bool false)], args := [d1, d2, d3] }
  | _ => none }
def PrivacyMostWrongFalsely : Prop := privacyMostRow.holds Tryz.pinned (OpenSpec.ofChange privacyMostWrong)

/-- 'sortilegelaw36.PrivacyAts': WHATEVER THE INPUT: true; the input reads as it did. -/
def privacyAtsSpec : ChangeSpec := { name := "privacyAts", fn := fun _ => fun
  | [d1, d2] => { results := [.lit (.bool true)], args := [d1, d2] }
  | _ => none }
def privacyAtsRow : OpenClaim := { program := "ytipbefckimdkkaagreat", sum := "09e38f8545702242137298db685852d31ca34e745396141e1d92f51558450dce", func := "sortilege/sortilegelaw36.PrivacyAts", spec := "privacyAts", unfollowed := true, recurses := true, apart := false }
def PrivacyAtsSaid : Prop := privacyAtsRow.holds Tryz.pinned (OpenSpec.ofChange privacyAtsSpec)

/-- ITS FALSE NEIGHBOUR: 'it returns false'. Refute it at one input. -/
def privacyAtsWrong : ChangeSpec := { name := "privacyAts", fn := fun _ => fun
  | [d1, d2] => { results := [.lit (.bool false)], args := [d1, d2] }
  | _ => none }
def PrivacyAtsWrongFalsely : Prop := privacyAtsRow.holds Tryz.pinned (OpenSpec.ofChange privacyAtsWrong)

/-- 'sortilegelaw36.PrivacyBoth': WHATEVER THE INPUT: true; the input reads as it did. -/
def privacyBothSpec : ChangeSpec := { name := "privacyBoth", fn := fun _ => fun
  | [d1, d2] => { results := [.lit (.bool true)], args := [d1, d2] }
  | _ => none }
def privacyBothRow : OpenClaim := { program := "ytipbefckimdkkaagreat", sum := "09e38f8545702242137298db685852d31ca34e745396141e1d92f51558450dce", func := "sortilege/sortilegelaw36.PrivacyBoth", spec := "privacyBoth", unfollowed := true, recurses := true, loops := true, apart := false }
def PrivacyBothSaid : Prop := privacyBothRow.holds Tryz.pinned (OpenSpec.ofChange privacyBothSpec)

/-- ITS FALSE NEIGHBOUR: 'it returns false'. Refute it at one input. -/
def privacyBothWrong : ChangeSpec := { name := "privacyBoth", fn := fun _ => fun
  | [d1, d2] => { results := [.lit (.bool false)], args := [d1, d2] }
  | _ => none }
def PrivacyBothWrongFalsely : Prop := privacyBothRow.holds Tryz.pinned (OpenSpec.ofChange privacyBothWrong)

/-- 'sortilegelaw36.PrivacyTwo': WHATEVER THE INPUT: true; the input reads as it did. -/
def privacyTwoSpec : ChangeSpec := { name := "privacyTwo", fn := fun _ => fun
  | [d1, d2, d3] => { results := [.lit (.bool true)], args := [d1, d2, d3] }
  | _ => none }
def privacyTwoRow : OpenClaim := { program := "ytipbefckimdkkaagreat", sum := "09e38f8545702242137298db685852d31ca34e745396141e1d92f51558450dce", func := "sortilege/sortilegelaw36.PrivacyTwo", spec := "privacyTwo", unfollowed := true, recurses := true, loops := true, apart := false }
def PrivacyTwoSaid : Prop := privacyTwoRow.holds Tryz.pinned (OpenSpec.ofChange privacyTwoSpec)

/-- ITS FALSE NEIGHBOUR: 'it returns false'. Refute it at one input. -/
def privacyTwoWrong : ChangeSpec := { name := "privacyTwo", fn := fun _ => fun
  | [d1, d2, d3] => { results := [.lit (.bool false)], args := [d1, d2, d3] }
  | _ => none }
def PrivacyTwoWrongFalsely : Prop := privacyTwoRow.holds Tryz.pinned (OpenSpec.ofChange privacyTwoWrong)

/-- 'sortilegelaw36.PrivacyRests': WHATEVER THE INPUT: true; the input reads as it did. -/
def privacyRestsSpec : ChangeSpec := { name := "privacyRests", fn := fun _ => fun
  | [d1, d2, d3] => { results := [.lit (.bool true)], args := [d1, d2, d3] }
  | _ => none }
def privacyRestsRow : OpenClaim := { program := "ytipbefckimdkkaagreat", sum := "09e38f8545702242137298db685852d31ca34e745396141e1d92f51558450dce", func := "sortilege/sortilegelaw36.PrivacyRests", spec := "privacyRests", unfollowed := true, recurses := true, loops := true, apart := false }
def PrivacyRestsSaid : Prop := privacyRestsRow.holds Tryz.pinned (OpenSpec.ofChange privacyRestsSpec)

/-- ITS FALSE NEIGHBOUR: 'it returns false'. Refute it at one input. -/
def privacyRestsWrong : ChangeSpec := { name := "privacyRests", fn := fun _ => fun
  | [d1, d2, d3] => { results := [.lit (.bool false)], args := [d1, d2, d3] }
  | _ => none }
def PrivacyRestsWrongFalsely : Prop := privacyRestsRow.holds Tryz.pinned (OpenSpec.ofChange privacyRestsWrong)

/-- 'sortilegelaw36.PrivacyFalls': WHATEVER THE INPUT: true; the input reads as it did. -/
def privacyFallsSpec : ChangeSpec := { name := "privacyFalls", fn := fun _ => fun
  | [d1, d2, d3] => { results := [.lit (.bool true)], args := [d1, d2, d3] }
  | _ => none }
def privacyFallsRow : OpenClaim := { program := "ytipbefckimdkkaagreat", sum := "09e38f8545702242137298db685852d31ca34e745396141e1d92f51558450dce", func := "sortilege/sortilegelaw36.PrivacyFalls", spec := "privacyFalls", unfollowed := true, recurses := true, loops := true, apart := false }
def PrivacyFallsSaid : Prop := privacyFallsRow.holds Tryz.pinned (OpenSpec.ofChange privacyFallsSpec)

/-- ITS FALSE NEIGHBOUR: 'it returns false'. Refute it at one input. -/
def privacyFallsWrong : ChangeSpec := { name := "privacyFalls", fn := fun _ => fun
  | [d1, d2, d3] => { results := [.lit (.bool false)], args := [d1, d2, d3] }
  | _ => none }
def PrivacyFallsWrongFalsely : Prop := privacyFallsRow.holds Tryz.pinned (OpenSpec.ofChange privacyFallsWrong)

/-- 'sortilegelaw36.PrivacyTurns': WHATEVER THE INPUT: true; the input reads as it did. -/
def privacyTurnsSpec : ChangeSpec := { name := "privacyTurns", fn := fun _ => fun
  | [d1, d2] => { results := [.lit (.bool true)], args := [d1, d2] }
  | _ => none }
def privacyTurnsRow : OpenClaim := { program := "ytipbefckimdkkaagreat", sum := "09e38f8545702242137298db685852d31ca34e745396141e1d92f51558450dce", func := "sortilege/sortilegelaw36.PrivacyTurns", spec := "privacyTurns", unfollowed := true, recurses := true, loops := true, apart := false }
def PrivacyTurnsSaid : Prop := privacyTurnsRow.holds Tryz.pinned (OpenSpec.ofChange privacyTurnsSpec)

/-- ITS FALSE NEIGHBOUR: 'it returns false'. Refute it at one input. -/
def privacyTurnsWrong : ChangeSpec := { name := "privacyTurns", fn := fun _ => fun
  | [d1, d2] => { results := [.lit (.bool false)], args := [d1, d2] }
  | _ => none }
def PrivacyTurnsWrongFalsely : Prop := privacyTurnsRow.holds Tryz.pinned (OpenSpec.ofChange privacyTurnsWrong)

/-- 'sortilegelaw36.PrivacyTurned': WHATEVER THE INPUT: true; the input reads as it did. -/
def privacyTurnedSpec : ChangeSpec := { name := "privacyTurned", fn := fun _ => fun
  | [d1, d2, d3] => { results := [.lit (.bool true)], args := [d1, d2, d3] }
  | _ => none }
def privacyTurnedRow : OpenClaim := { program := "ytipbefckimdkkaagreat", sum := "09e38f8545702242137298db685852d31ca34e745396141e1d92f51558450dce", func := "sortilege/sortilegelaw36.PrivacyTurned", spec := "privacyTurned", unfollowed := true, recurses := true, loops := true, apart := false }
def PrivacyTurnedSaid : Prop := privacyTurnedRow.holds Tryz.pinned (OpenSpec.ofChange privacyTurnedSpec)

/-- ITS FALSE NEIGHBOUR: 'it returns false'. Refute it at one input. -/
def privacyTurnedWrong : ChangeSpec := { name := "privacyTurned", fn := fun _ => fun
  | [d1, d2, d3] => { results := [.lit (.bool false)], args := [d1, d2, d3] }
  | _ => none }
def PrivacyTurnedWrongFalsely : Prop := privacyTurnedRow.holds Tryz.pinned (OpenSpec.ofChange privacyTurnedWrong)

/- THE SECOND FORM. 'bulk': how many values and letters a reading holds, each counted each time it is reached (what is shared counts as often as it is met; a slice's spare places count too). A statement '..UptoSaid' is the law's where the arguments, and the package variables that the reading takes, are together of bulk at most 1048576: NARROWER than '..Said'. Prove '..Said' where nothing that the law and all that it calls make is longer than what came in: it says more and counts as full. Else prove '..UptoSaid'. A law counts once. -/
mutual
def uptoBulk {H : Type} : DataW H → Nat
  | .lit (.string bytes) => bytes.length + 1
  | .lit _ => 1
  | .nil => 1
  | .ptr d => uptoBulk d + 1
  | .slice elems spare => uptoBulkAll elems + uptoBulkAll spare + 1
  | .agg parts => uptoBulkAll parts + 1
  | .iface _ d => uptoBulk d + 1
  | .map entries => uptoBulkEntries entries + 1
  | .held _ => 1
def uptoBulkAll {H : Type} : List (DataW H) → Nat
  | [] => 0
  | d :: r => uptoBulk d + uptoBulkAll r
def uptoBulkEntries {H : Type} : List (Lit × DataW H) → Nat
  | [] => 0
  | x :: r => uptoBulkEntry x + uptoBulkEntries r
def uptoBulkEntry {H : Type} : Lit × DataW H → Nat
  | (.string bytes, d) => bytes.length + uptoBulk d + 1
  | (_, d) => uptoBulk d + 1
 end
def uptoSmall : (H : Type) → List (DataW H) → Bool := fun _ ds => decide (uptoBulkAll ds ≤ 1048576)
def OpenSpec.upto (s : _root_.Go.ChangeSpec) : _root_.Go.OpenSpec := { _root_.Go.OpenSpec.ofChange s with cond := some uptoSmall }

/-- 'sortilegelaw36.PrivacyThird', WHERE WHAT IT READS IS OF BULK AT MOST 1048576: true; the input reads as it did. -/
def privacyThirdUptoRow : OpenClaim := { program := "ytipbefckimdkkaagreat", sum := "09e38f8545702242137298db685852d31ca34e745396141e1d92f51558450dce", func := "sortilege/sortilegelaw36.PrivacyThird", spec := "privacyThird", unfollowed := true, recurses := true, loops := true, apart := false, narrowed := true }
def PrivacyThirdUptoSaid : Prop := privacyThirdUptoRow.holds Tryz.pinned (OpenSpec.upto privacyThirdSpec)

/-- 'sortilegelaw36.PrivacyCurves', WHERE WHAT IT READS IS OF BULK AT MOST 1048576: true; the input reads as it did. -/
def privacyCurvesUptoRow : OpenClaim := { program := "ytipbefckimdkkaagreat", sum := "09e38f8545702242137298db685852d31ca34e745396141e1d92f51558450dce", func := "sortilege/sortilegelaw36.PrivacyCurves", spec := "privacyCurves", unfollowed := true, recurses := true, loops := true, apart := false, narrowed := true }
def PrivacyCurvesUptoSaid : Prop := privacyCurvesUptoRow.holds Tryz.pinned (OpenSpec.upto privacyCurvesSpec)

/-- 'sortilegelaw36.PrivacyMost', WHERE WHAT IT READS IS OF BULK AT MOST 1048576: true; the input reads as it did. -/
def privacyMostUptoRow : OpenClaim := { program := "ytipbefckimdkkaagreat", sum := "09e38f8545702242137298db685852d31ca34e745396141e1d92f51558450dce", func := "sortilege/sortilegelaw36.PrivacyMost", spec := "privacyMost", unfollowed := true, recurses := true, loops := true, apart := false, narrowed := true }
def PrivacyMostUptoSaid : Prop := privacyMostUptoRow.holds Tryz.pinned (OpenSpec.upto privacyMostSpec)

/-- 'sortilegelaw36.PrivacyAts', WHERE WHAT IT READS IS OF BULK AT MOST 1048576: true; the input reads as it did. -/
def privacyAtsUptoRow : OpenClaim := { program := "ytipbefckimdkkaagreat", sum := "09e38f8545702242137298db685852d31ca34e745396141e1d92f51558450dce", func := "sortilege/sortilegelaw36.PrivacyAts", spec := "privacyAts", unfollowed := true, recurses := true, apart := false, narrowed := true }
def PrivacyAtsUptoSaid : Prop := privacyAtsUptoRow.holds Tryz.pinned (OpenSpec.upto privacyAtsSpec)

/-- 'sortilegelaw36.PrivacyBoth', WHERE WHAT IT READS IS OF BULK AT MOST 1048576: true; the input reads as it did. -/
def privacyBothUptoRow : OpenClaim := { program := "ytipbefckimdkkaagreat", sum := "09e38f8545702242137298db685852d31ca34e745396141e1d92f51558450dce", func := "sortilege/sortilegelaw36.PrivacyBoth", spec := "privacyBoth", unfollowed := true, recurses := true, loops := true, apart := false, narrowed := true }
def PrivacyBothUptoSaid : Prop := privacyBothUptoRow.holds Tryz.pinned (OpenSpec.upto privacyBothSpec)

/-- 'sortilegelaw36.PrivacyTwo', WHERE WHAT IT READS IS OF BULK AT MOST 1048576: true; the input reads as it did. -/
def privacyTwoUptoRow : OpenClaim := { program := "ytipbefckimdkkaagreat", sum := "09e38f8545702242137298db685852d31ca34e745396141e1d92f51558450dce", func := "sortilege/sortilegelaw36.PrivacyTwo", spec := "privacyTwo", unfollowed := true, recurses := true, loops := true, apart := false, narrowed := true }
def PrivacyTwoUptoSaid : Prop := privacyTwoUptoRow.holds Tryz.pinned (OpenSpec.upto privacyTwoSpec)

/-- 'sortilegelaw36.PrivacyRests', WHERE WHAT IT READS IS OF BULK AT MOST 1048576: true; the input reads as it did. -/
def privacyRestsUptoRow : OpenClaim := { program := "ytipbefckimdkkaagreat", sum := "09e38f8545702242137298db685852d31ca34e745396141e1d92f51558450dce", func := "sortilege/sortilegelaw36.PrivacyRests", spec := "privacyRests", unfollowed := true, recurses := true, loops := true, apart := false, narrowed := true }
def PrivacyRestsUptoSaid : Prop := privacyRestsUptoRow.holds Tryz.pinned (OpenSpec.upto privacyRestsSpec)

/-- 'sortilegelaw36.PrivacyFalls', WHERE WHAT IT READS IS OF BULK AT MOST 1048576: true; the input reads as it did. -/
def privacyFallsUptoRow : OpenClaim := { program := "ytipbefckimdkkaagreat", sum := "09e38f8545702242137298db685852d31ca34e745396141e1d92f51558450dce", func := "sortilege/sortilegelaw36.PrivacyFalls", spec := "privacyFalls", unfollowed := true, recurses := true, loops := true, apart := false, narrowed := true }
def PrivacyFallsUptoSaid : Prop := privacyFallsUptoRow.holds Tryz.pinned (OpenSpec.upto privacyFallsSpec)

/-- 'sortilegelaw36.PrivacyTurns', WHERE WHAT IT READS IS OF BULK AT MOST 1048576: true; the input reads as it did. -/
def privacyTurnsUptoRow : OpenClaim := { program := "ytipbefckimdkkaagreat", sum := "09e38f8545702242137298db685852d31ca34e745396141e1d92f51558450dce", func := "sortilege/sortilegelaw36.PrivacyTurns", spec := "privacyTurns", unfollowed := true, recurses := true, loops := true, apart := false, narrowed := true }
def PrivacyTurnsUptoSaid : Prop := privacyTurnsUptoRow.holds Tryz.pinned (OpenSpec.upto privacyTurnsSpec)

/-- 'sortilegelaw36.PrivacyTurned', WHERE WHAT IT READS IS OF BULK AT MOST 1048576: true; the input reads as it did. -/
def privacyTurnedUptoRow : OpenClaim := { program := "ytipbefckimdkkaagreat", sum := "09e38f8545702242137298db685852d31ca34e745396141e1d92f51558450dce", func := "sortilege/sortilegelaw36.PrivacyTurned", spec := "privacyTurned", unfollowed := true, recurses := true, loops := true, apart := false, narrowed := true }
def PrivacyTurnedUptoSaid : Prop := privacyTurnedUptoRow.holds Tryz.pinned (OpenSpec.upto privacyTurnedSpec)

end Rows
end Go.Proofs.YtipbefckimdkkaaGreat
