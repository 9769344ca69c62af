/-
  NARROWER THAN 'FOR EVERY INPUT', by the rows' own cells (each row's printed sentence says how): CoupleRights: loops · CoupleBest: loops · CoupleLeast: loops · CoupleSets: loops · CoupleBlocks: loops · CoupleBelow: loops · CoupleOrder: loops · CoupleWithin: loops · CoupleEither: loops.
  DERIVED. THE GIVEN ROWS OF THIS SEAT. 9 by the template 'for every input the law returns true; each argument reads behind the call as it read before'; 0 by the template 'total and deterministic' (their statements: YtnneehniendnfaaGreatTotals.lean).
  GIVEN WITH THE SEED: the statements are not yours to turn. If you find one false, say at which input.
  Laid BY PROGRAM, IN A SANDBOX (cutbox-rows.mjs): the forced cells as the released guide's own fill.sh prints them over the translation 8f9dd6fd9feea7f3… (all of the seat's roots in one cut). By AI agents, Wed Nov 11 2026. No macro, syntax, notation, axiom, sorry.
-/
import Derived.Test.YtnneehniendnfaaGreatChecked
import GoSem.Claim
import GoSem.ClaimJoined
import GoSem.ClaimMapViews
import Derived.JoinedTies
import Derived.KernelRfl
namespace Go.Proofs.YtnneehniendnfaaGreat
/- THE CELL 'sum', in the pinned program and in every row, IS THE sha256 OF THE DUMP (.gsa) THAT YtnneehniendnfaaGreatProg.lean LOADS. Nothing in Lean hashes anything: it is a label: what it is worth is what the hold of that sum in a sandbox is worth. -/
noncomputable def Tryz.pinned : Pinned := { name := "ytnneehniendnfaagreat", sum := "8f9dd6fd9feea7f393bd70296ff4b9625e4ad1ac8b7886a51bda1e5e3f358a9e", checked := Tryz.checked }
namespace Rows
def none {H : Type} : Left H := { results := [], args := [] }

/-- 'sortilegelaw35.CoupleRights': WHATEVER THE INPUT: true; the input reads as it did. -/
def coupleRightsSpec : ChangeSpec := { name := "coupleRights", fn := fun _ => fun
  | [d1, d2, d3] => { results := [.lit (.bool true)], args := [d1, d2, d3] }
  | _ => none }
def coupleRightsRow : OpenClaim := { program := "ytnneehniendnfaagreat", sum := "8f9dd6fd9feea7f393bd70296ff4b9625e4ad1ac8b7886a51bda1e5e3f358a9e", func := "sortilege/sortilegelaw35.CoupleRights", spec := "coupleRights", unfollowed := true, recurses := true, loops := true, apart := false }
def CoupleRightsSaid : Prop := coupleRightsRow.holds Tryz.pinned (OpenSpec.ofChange coupleRightsSpec)

/-- ITS FALSE NEIGHBOUR: 'it returns false'. Refute it at one input. -/
def coupleRightsWrong : ChangeSpec := { name := "coupleRights", fn := fun _ => fun
  | [d1, d2, d3] => { results := [.lit (.bool false)], args := [d1, d2, d3] }
  | _ => none }
def CoupleRightsWrongFalsely : Prop := coupleRightsRow.holds Tryz.pinned (OpenSpec.ofChange coupleRightsWrong)

/-- 'sortilegelaw35.CoupleBest': WHATEVER THE INPUT: true; the input reads as it did. -/
def coupleBestSpec : ChangeSpec := { name := "coupleBest", fn := fun _ => fun
  | [d1, d2] => { results := [.lit (.bool true)], args := [d1, d2] }
  | _ => none }
def coupleBestRow : OpenClaim := { program := "ytnneehniendnfaagreat", sum := "8f9dd6fd9feea7f393bd70296ff4b9625e4ad1ac8b7886a51bda1e5e3f358a9e", func := "sortilege/sortilegelaw35.CoupleBest", spec := "coupleBest", unfollowed := true, recurses := true, loops := true, apart := false }
def CoupleBestSaid : Prop := coupleBestRow.holds Tryz.pinned (OpenSpec.ofChange coupleBestSpec)

/-- ITS FALSE NEIGHBOUR: 'it returns false'. Refute it at one input. -/
def coupleBestWrong : ChangeSpec := { name := "coupleBest", fn := fun _ => fun
  | [d1, d2] => { results := [.lit (.bool false)], args := [d1, d2] }
  | _ => none }
def CoupleBestWrongFalsely : Prop := coupleBestRow.holds Tryz.pinned (OpenSpec.ofChange coupleBestWrong)

/-- 'sortilegelaw35.CoupleLeast': WHATEVER THE INPUT: true; the input reads as it did. -/
def coupleLeastSpec : ChangeSpec := { name := "coupleLeast", fn := fun _ => fun
  | [d1, d2, d3] => { results := [.lit (.bool true)], args := [d1, d2, d3] }
  | _ => none }
def coupleLeastRow : OpenClaim := { program := "ytnneehniendnfaagreat", sum := "8f9dd6fd9feea7f393bd70296ff4b9625e4ad1ac8b7886a51bda1e5e3f358a9e", func := "sortilege/sortilegelaw35.CoupleLeast", spec := "coupleLeast", unfollowed := true, recurses := true, loops := true, apart := false }
def CoupleLeastSaid : Prop := coupleLeastRow.holds Tryz.pinned (OpenSpec.ofChange coupleLeastSpec)

/-- ITS FALSE NEIGHBOUR: 'it returns false'. Refute it at one input. -/
def coupleLeastWrong : ChangeSpec := { name := "coupleLeast", fn := fun _ => fun
  | [d1, d2, d3] => { results := [.lit (.bool false)], args := [d1, d2, d3] }
  | _ => none }
def CoupleLeastWrongFalsely : Prop := coupleLeastRow.holds Tryz.pinned (OpenSpec.ofChange coupleLeastWrong)

/-- 'sortilegelaw35.CoupleSets': WHATEVER THE INPUT: true; the input reads as it did. -/
def coupleSetsSpec : ChangeSpec := { name := "coupleSets", fn := fun _ => fun
  | [d1, d2] => { results := [.lit (.bool true)], args := [d1, d2] }
  | _ => none }
def coupleSetsRow : OpenClaim := { program := "ytnneehniendnfaagreat", sum := "8f9dd6fd9feea7f393bd70296ff4b9625e4ad1ac8b7886a51bda1e5e3f358a9e", func := "sortilege/sortilegelaw35.CoupleSets", spec := "coupleSets", unfollowed := true, recurses := true, loops := true, apart := false }
def CoupleSetsSaid : Prop := coupleSetsRow.holds Tryz.pinned (OpenSpec.ofChange coupleSetsSpec)

/-- ITS FALSE NEIGHBOUR: 'it returns false'. Refute it at one input. -/
def coupleSetsWrong : ChangeSpec := { name := "coupleSets", fn := fun _ => fun
  | [d1, d2] => { results := [.lit (.bool false)], args := [d1, d2] }
  | _ => none }
def CoupleSetsWrongFalsely : Prop := coupleSetsRow.holds Tryz.pinned (OpenSpec.ofChange coupleSetsWrong)

/-- 'sortilegelaw35.CoupleBlocks': WHATEVER THE INPUT: true; the input reads as it did. -/
def coupleBlocksSpec : ChangeSpec := { name := "coupleBlocks", fn := fun _ => fun
  | [d1, d2, d3] => { results := [.lit (.bool true)], args := [d1, d2, d3] }
  | _ => none }
def coupleBlocksRow : OpenClaim := { program := "ytnneehniendnfaagreat", sum := "8f9dd6fd9feea7f393bd70296ff4b9625e4ad1ac8b7886a51bda1e5e3f358a9e", func := "sortilege/sortilegelaw35.CoupleBlocks", spec := "coupleBlocks", unfollowed := true, recurses := true, loops := true, apart := false }
def CoupleBlocksSaid : Prop := coupleBlocksRow.holds Tryz.pinned (OpenSpec.ofChange coupleBlocksSpec)

/-- ITS FALSE NEIGHBOUR: 'it returns false'. Refute it at one input. -/
def coupleBlocksWrong : ChangeSpec := { name := "coupleBlocks", fn := fun _ => fun
  | [d1, d2, d3] => { results := [.lit (.bool false)], args := [d1, d2, d3] }
  | _ => none }
def CoupleBlocksWrongFalsely : Prop := coupleBlocksRow.holds Tryz.pinned (OpenSpec.ofChange coupleBlocksWrong)

/-- 'sortilegelaw35.CoupleBelow': WHATEVER THE INPUT: true; the input reads as it did. -/
def coupleBelowSpec : ChangeSpec := { name := "coupleBelow", fn := fun _ => fun
  | [d1, d2] => { results := [.lit (.bool true)], args := [d1, d2] }
  | _ => none }
def coupleBelowRow : OpenClaim := { program := "ytnneehniendnfaagreat", sum := "8f9dd6fd9feea7f393bd70296ff4b9625e4ad1ac8b7886a51bda1e5e3f358a9e", func := "sortilege/sortilegelaw35.CoupleBelow", spec := "coupleBelow", unfollowed := true, recurses := true, loops := true, apart := false }
def CoupleBelowSaid : Prop := coupleBelowRow.holds Tryz.pinned (OpenSpec.ofChange coupleBelowSpec)

/-- ITS FALSE NEIGHBOUR: 'it returns false'. Refute it at one input. -/
def coupleBelowWrong : ChangeSpec := { name := "coupleBelow", fn := fun _ => fun
  | [d1, d2] => { results := [.lit (.bool false)], args := [d1, d2] }
  | _ => none }
def CoupleBelowWrongFalsely : Prop := coupleBelowRow.holds Tryz.pinned (OpenSpec.ofChange coupleBelowWrong)

/-- 'sortilegelaw35.CoupleOrder': WHATEVER THE INPUT: true; the input reads as it did. -/
def coupleOrderSpec : ChangeSpec := { name := "coupleOrder", fn := fun _ => fun
  | [d1, d2] => { results := [.lit (.bool true)], args := [d1, d2] }
  | _ => none }
def coupleOrderRow : OpenClaim := { program := "ytnneehniendnfaagreat", sum := "8f9dd6fd9feea7f393bd70296ff4b9625e4ad1ac8b7886a51bda1e5e3f358a9e", func := "sortilege/sortilegelaw35.CoupleOrder", spec := "coupleOrder", unfollowed := true, recurses := true, loops := true, apart := false }
def CoupleOrderSaid : Prop := coupleOrderRow.holds Tryz.pinned (OpenSpec.ofChange coupleOrderSpec)

/-- ITS FALSE NEIGHBOUR: 'it returns false'. Refute it at one input. -/
def coupleOrderWrong : ChangeSpec := { name := "coupleOrder", fn := fun _ => fun
  | [d1, d2] => { results := [.lit (.bool false)], args := [d1, d2] }
  | _ => none }
def CoupleOrderWrongFalsely : Prop := coupleOrderRow.holds Tryz.pinned (OpenSpec.ofChange coupleOrderWrong)

/-- 'sortilegelaw35.CoupleWithin': WHATEVER THE INPUT: true; the input reads as it did. -/
def coupleWithinSpec : ChangeSpec := { name := "coupleWithin", fn := fun _ => fun
  | [d1, d2, d3] => { results := [.lit (.bool true)], args := [d1, d2, d3] }
  | _ => none }
def coupleWithinRow : OpenClaim := { program := "ytnneehniendnfaagreat", sum := "8f9dd6fd9feea7f393bd70296ff4b9625e4ad1ac8b7886a51bda1e5e3f358a9e", func := "sortilege/sortilegelaw35.CoupleWithin", spec := "coupleWithin", unfollowed := true, recurses := true, loops := true, apart := false }
def CoupleWithinSaid : Prop := coupleWithinRow.holds Tryz.pinned (OpenSpec.ofChange coupleWithinSpec)

/-- ITS FALSE NEIGHBOUR: 'it returns false'. Refute it at one input. -/
def coupleWithinWrong : ChangeSpec := { name := "coupleWithin", fn := fun _ => fun
  | [d1, d2, d3] => { results := [.lit (.bool false)], args := [d1, d2, d3] }
  | _ => none }
def CoupleWithinWrongFalsely : Prop := coupleWithinRow.holds Tryz.pinned (OpenSpec.ofChange coupleWithinWrong)

/-- 'sortilegelaw35.CoupleEither': WHATEVER THE INPUT: true; the input reads as it did. -/
def coupleEitherSpec : ChangeSpec := { name := "coupleEither", fn := fun _ => fun
  | [d1, d2, d3] => { results := [.lit (.bool true)], args := [d1, d2, d3] }
  | _ => none }
def coupleEitherRow : OpenClaim := { program := "ytnneehniendnfaagreat", sum := "8f9dd6fd9feea7f393bd70296ff4b9625e4ad1ac8b7886a51bda1e5e3f358a9e", func := "sortilege/sortilegelaw35.CoupleEither", spec := "coupleEither", unfollowed := true, recurses := true, loops := true, apart := false }
def CoupleEitherSaid : Prop := coupleEitherRow.holds Tryz.pinned (OpenSpec.ofChange coupleEitherSpec)

/-- ITS FALSE NEIGHBOUR: 'it returns false'. Refute it at one input. -/
def coupleEitherWrong : ChangeSpec := { name := "coupleEither", fn := fun _ => fun
  | [d1, d2, d3] => { results := [.lit (.bool false)], args := [d1, d2, d3] }
  | _ => none }
def CoupleEitherWrongFalsely : Prop := coupleEitherRow.holds Tryz.pinned (OpenSpec.ofChange coupleEitherWrong)

/- THE SECOND FORM. 'bulk': how many values and letters a reading holds, each counted each time it is reached (what is shared counts as often as it is met; a slice's spare places count too). A statement '..UptoSaid' is the law's where the arguments, and the package variables that the reading takes, are together of bulk at most 1048576: NARROWER than '..Said'. Prove '..Said' where nothing that the law and all that it calls make is longer than what came in: it says more and counts as full. Else prove '..UptoSaid'. A law counts once. -/
mutual
def uptoBulk {H : Type} : DataW H → Nat
  | .lit (.string bytes) => bytes.length + 1
  | .lit _ => 1
  | .nil => 1
  | .ptr d => uptoBulk d + 1
  | .slice elems spare => uptoBulkAll elems + uptoBulkAll spare + 1
  | .agg parts => uptoBulkAll parts + 1
  | .iface _ d => uptoBulk d + 1
  | .map entries => uptoBulkEntries entries + 1
  | .held _ => 1
def uptoBulkAll {H : Type} : List (DataW H) → Nat
  | [] => 0
  | d :: r => uptoBulk d + uptoBulkAll r
def uptoBulkEntries {H : Type} : List (Lit × DataW H) → Nat
  | [] => 0
  | x :: r => uptoBulkEntry x + uptoBulkEntries r
def uptoBulkEntry {H : Type} : Lit × DataW H → Nat
  | (.string bytes, d) => bytes.length + uptoBulk d + 1
  | (_, d) => uptoBulk d + 1
 end
def uptoSmall : (H : Type) → List (DataW H) → Bool := fun _ ds => decide (uptoBulkAll ds ≤ 1048576)
def OpenSpec.upto (s : _root_.Go.ChangeSpec) : _root_.Go.OpenSpec := { _root_.Go.OpenSpec.ofChange s with cond := some uptoSmall }

/-- 'sortilegelaw35.CoupleRights', WHERE WHAT IT READS IS OF BULK AT MOST 1048576: true; the input reads as it did. -/
def coupleRightsUptoRow : OpenClaim := { program := "ytnneehniendnfaagreat", sum := "8f9dd6fd9feea7f393bd70296ff4b9625e4ad1ac8b7886a51bda1e5e3f358a9e", func := "sortilege/sortilegelaw35.CoupleRights", spec := "coupleRights", unfollowed := true, recurses := true, loops := true, apart := false, narrowed := true }
def CoupleRightsUptoSaid : Prop := coupleRightsUptoRow.holds Tryz.pinned (OpenSpec.upto coupleRightsSpec)

/-- 'sortilegelaw35.CoupleBest', WHERE WHAT IT READS IS OF BULK AT MOST 1048576: true; the input reads as it did. -/
def coupleBestUptoRow : OpenClaim := { program := "ytnneehniendnfaagreat", sum := "8f9dd6fd9feea7f393bd70296ff4b9625e4ad1ac8b7886a51bda1e5e3f358a9e", func := "sortilege/sortilegelaw35.CoupleBest", spec := "coupleBest", unfollowed := true, recurses := true, loops := true, apart := false, narrowed := true }
def CoupleBestUptoSaid : Prop := coupleBestUptoRow.holds Tryz.pinned (OpenSpec.upto coupleBestSpec)

/-- 'sortilegelaw35.CoupleLeast', WHERE WHAT IT READS IS OF BULK AT MOST 1048576: true; the input reads as it did. -/
def coupleLeastUptoRow : OpenClaim := { program := "ytnneehniendnfaagreat", sum := "8f9dd6fd9feea7f393bd70296ff4b9625e4ad1ac8b7886a51bda1e5e3f358a9e", func := "sortilege/sortilegelaw35.CoupleLeast", spec := "coupleLeast", unfollowed := true, recurses := true, loops := true, apart := false, narrowed := true }
def CoupleLeastUptoSaid : Prop := coupleLeastUptoRow.holds Tryz.pinned (OpenSpec.upto coupleLeastSpec)

/-- 'sortilegelaw35.CoupleSets', WHERE WHAT IT READS IS OF BULK AT MOST 1048576: true; the input reads as it did. -/
def coupleSetsUptoRow : OpenClaim := { program := "ytnneehniendnfaagreat", sum := "8f9dd6fd9feea7f393bd70296ff4b9625e4ad1ac8b7886a51bda1e5e3f358a9e", func := "sortilege/sortilegelaw35.CoupleSets", spec := "coupleSets", unfollowed := true, recurses := true, loops := true, apart := false, narrowed := true }
def CoupleSetsUptoSaid : Prop := coupleSetsUptoRow.holds Tryz.pinned (OpenSpec.upto coupleSetsSpec)

/-- 'sortilegelaw35.CoupleBlocks', WHERE WHAT IT READS IS OF BULK AT MOST 1048576: true; the input reads as it did. -/
def coupleBlocksUptoRow : OpenClaim := { program := "ytnneehniendnfaagreat", sum := "8f9dd6fd9feea7f393bd70296ff4b9625e4ad1ac8b7886a51bda1e5e3f358a9e", func := "sortilege/sortilegelaw35.CoupleBlocks", spec := "coupleBlocks", unfollowed := true, recurses := true, loops := true, apart := false, narrowed := true }
def CoupleBlocksUptoSaid : Prop := coupleBlocksUptoRow.holds Tryz.pinned (OpenSpec.upto coupleBlocksSpec)

/-- 'sortilegelaw35.CoupleBelow', WHERE WHAT IT READS IS OF BULK AT MOST 1048576: true; the input reads as it did. -/
def coupleBelowUptoRow : OpenClaim := { program := "ytnneehniendnfaagreat", sum := "8f9dd6fd9feea7f393bd70296ff4b9625e4ad1ac8b7886a51bda1e5e3f358a9e", func := "sortilege/sortilegelaw35.CoupleBelow", spec := "coupleBelow", unfollowed := true, recurses := true, loops := true, apart := false, narrowed := true }
def CoupleBelowUptoSaid : Prop := coupleBelowUptoRow.holds Tryz.pinned (OpenSpec.upto coupleBelowSpec)

/-- 'sortilegelaw35.CoupleOrder', WHERE WHAT IT READS IS OF BULK AT MOST 1048576: true; the input reads as it did. -/
def coupleOrderUptoRow : OpenClaim := { program := "ytnneehniendnfaagreat", sum := "8f9dd6fd9feea7f393bd70296ff4b9625e4ad1ac8b7886a51bda1e5e3f358a9e", func := "sortilege/sortilegelaw35.CoupleOrder", spec := "coupleOrder", unfollowed := true, recurses := true, loops := true, apart := false, narrowed := true }
def CoupleOrderUptoSaid : Prop := coupleOrderUptoRow.holds Tryz.pinned (OpenSpec.upto coupleOrderSpec)

/-- 'sortilegelaw35.CoupleWithin', WHERE WHAT IT READS IS OF BULK AT MOST 1048576: true; the input reads as it did. -/
def coupleWithinUptoRow : OpenClaim := { program := "ytnneehniendnfaagreat", sum := "8f9dd6fd9feea7f393bd70296ff4b9625e4ad1ac8b7886a51bda1e5e3f358a9e", func := "sortilege/sortilegelaw35.CoupleWithin", spec := "coupleWithin", unfollowed := true, recurses := true, loops := true, apart := false, narrowed := true }
def CoupleWithinUptoSaid : Prop := coupleWithinUptoRow.holds Tryz.pinned (OpenSpec.upto coupleWithinSpec)

/-- 'sortilegelaw35.CoupleEither', WHERE WHAT IT READS IS OF BULK AT MOST 1048576: true; the input reads as it did. -/
def coupleEitherUptoRow : OpenClaim := { program := "ytnneehniendnfaagreat", sum := "8f9dd6fd9feea7f393bd70296ff4b9625e4ad1ac8b7886a51bda1e5e3f358a9e", func := "sortilege/sortilegelaw35.CoupleEither", spec := "coupleEither", unfollowed := true, recurses := true, loops := true, apart := false, narrowed := true }
def CoupleEitherUptoSaid : Prop := coupleEitherUptoRow.holds Tryz.pinned (OpenSpec.upto coupleEitherSpec)

end Rows
end Go.Proofs.YtnneehniendnfaaGreat
