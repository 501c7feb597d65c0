/-
  No cell of these rows narrows 'for every input' (looked for: loops, veiled, ifaces, maps, wideKeys, modest, calm, conditions, laid).
  DERIVED. THE GIVEN ROWS OF THIS SEAT. 12 by the template 'for every input the law returns true; each argument reads behind the call as it read before'; 0 by the template 'total and deterministic' (their statements: YtfbbagnpdfafjaaTotals.lean).
  GIVEN WITH THE SEED: the statements are not yours to turn. If you find one false, say at which input.
  Laid BY PROGRAM, IN A SANDBOX (cutbox-rows.mjs): the forced cells as the released guide's own fill.sh prints them over the translation 89d821cc74e9ca98… (all of the seat's roots in one cut). By AI agents, Wed Nov 11 2026. No macro, syntax, notation, axiom, sorry.
-/
import Derived.Test.YtfbbagnpdfafjaaChecked
import GoSem.Claim
import GoSem.ClaimJoined
import GoSem.ClaimMapViews
import Derived.JoinedTies
import Derived.KernelRfl
namespace Go.Proofs.Ytfbbagnpdfafjaa
/- THE CELL 'sum', in the pinned program and in every row, IS THE sha256 OF THE DUMP (.gsa) THAT YtfbbagnpdfafjaaProg.lean LOADS. Nothing in Lean hashes anything: it is a label: what it is worth is what the hold of that sum in a sandbox is worth. -/
noncomputable def Try.pinned : Pinned := { name := "ytfbbagnpdfafjaa", sum := "89d821cc74e9ca9819d65fd92cdc5d60a4c9b677f84cbf1ffc988c25ce25c5f4", checked := Try.checked }
namespace Rows
def none {H : Type} : Left H := { results := [], args := [] }

/-- 'oastlaw09.HouseSpreads': WHATEVER THE INPUT: true; the input reads as it did. -/
def houseSpreadsSpec : ChangeSpec := { name := "houseSpreads", fn := fun _ => fun
  | [d1, d2, d3] => { results := [.lit (.bool true)], args := [d1, d2, d3] }
  | _ => none }
def houseSpreadsRow : OpenClaim := { program := "ytfbbagnpdfafjaa", sum := "89d821cc74e9ca9819d65fd92cdc5d60a4c9b677f84cbf1ffc988c25ce25c5f4", func := "oast/oastlaw09.HouseSpreads", spec := "houseSpreads", inPlace := ["math/bits.Add64"], unfollowed := true, recurses := true, named := ["math/bits.divideError", "math/bits.overflowError"], apart := false }
def HouseSpreadsSaid : Prop := houseSpreadsRow.holds Try.pinned (OpenSpec.ofChange houseSpreadsSpec)

/-- ITS FALSE NEIGHBOUR: 'it returns false'. Refute it at one input. -/
def houseSpreadsWrong : ChangeSpec := { name := "houseSpreads", fn := fun _ => fun
  | [d1, d2, d3] => { results := [.lit (.bool false)], args := [d1, d2, d3] }
  | _ => none }
def HouseSpreadsWrongFalsely : Prop := houseSpreadsRow.holds Try.pinned (OpenSpec.ofChange houseSpreadsWrong)

/-- 'oastlaw09.HouseKeeps': WHATEVER THE INPUT: true; the input reads as it did. -/
def houseKeepsSpec : ChangeSpec := { name := "houseKeeps", fn := fun _ => fun
  | [d1, d2] => { results := [.lit (.bool true)], args := [d1, d2] }
  | _ => none }
def houseKeepsRow : OpenClaim := { program := "ytfbbagnpdfafjaa", sum := "89d821cc74e9ca9819d65fd92cdc5d60a4c9b677f84cbf1ffc988c25ce25c5f4", func := "oast/oastlaw09.HouseKeeps", spec := "houseKeeps", inPlace := ["math/bits.Add64"], unfollowed := true, recurses := true, named := ["math/bits.divideError", "math/bits.overflowError"], apart := false }
def HouseKeepsSaid : Prop := houseKeepsRow.holds Try.pinned (OpenSpec.ofChange houseKeepsSpec)

/-- ITS FALSE NEIGHBOUR: 'it returns false'. Refute it at one input. -/
def houseKeepsWrong : ChangeSpec := { name := "houseKeeps", fn := fun _ => fun
  | [d1, d2] => { results := [.lit (.bool false)], args := [d1, d2] }
  | _ => none }
def HouseKeepsWrongFalsely : Prop := houseKeepsRow.holds Try.pinned (OpenSpec.ofChange houseKeepsWrong)

/-- 'oastlaw09.HouseHolds': WHATEVER THE INPUT: true; the input reads as it did. -/
def houseHoldsSpec : ChangeSpec := { name := "houseHolds", fn := fun _ => fun
  | [d1, d2, d3] => { results := [.lit (.bool true)], args := [d1, d2, d3] }
  | _ => none }
def houseHoldsRow : OpenClaim := { program := "ytfbbagnpdfafjaa", sum := "89d821cc74e9ca9819d65fd92cdc5d60a4c9b677f84cbf1ffc988c25ce25c5f4", func := "oast/oastlaw09.HouseHolds", spec := "houseHolds", inPlace := ["math/bits.Add64"], unfollowed := true, recurses := true, named := ["math/bits.divideError", "math/bits.overflowError"], apart := false }
def HouseHoldsSaid : Prop := houseHoldsRow.holds Try.pinned (OpenSpec.ofChange houseHoldsSpec)

/-- ITS FALSE NEIGHBOUR: 'it returns false'. Refute it at one input. -/
def houseHoldsWrong : ChangeSpec := { name := "houseHolds", fn := fun _ => fun
  | [d1, d2, d3] => { results := [.lit (.bool false)], args := [d1, d2, d3] }
  | _ => none }
def HouseHoldsWrongFalsely : Prop := houseHoldsRow.holds Try.pinned (OpenSpec.ofChange houseHoldsWrong)

/-- 'oastlaw09.HouseRuns': WHATEVER THE INPUT: true; the input reads as it did. -/
def houseRunsSpec : ChangeSpec := { name := "houseRuns", fn := fun _ => fun
  | [d1, d2] => { results := [.lit (.bool true)], args := [d1, d2] }
  | _ => none }
def houseRunsRow : OpenClaim := { program := "ytfbbagnpdfafjaa", sum := "89d821cc74e9ca9819d65fd92cdc5d60a4c9b677f84cbf1ffc988c25ce25c5f4", func := "oast/oastlaw09.HouseRuns", spec := "houseRuns", inPlace := ["math/bits.Add64"], unfollowed := true, recurses := true, named := ["math/bits.divideError", "math/bits.overflowError"], apart := false }
def HouseRunsSaid : Prop := houseRunsRow.holds Try.pinned (OpenSpec.ofChange houseRunsSpec)

/-- ITS FALSE NEIGHBOUR: 'it returns false'. Refute it at one input. -/
def houseRunsWrong : ChangeSpec := { name := "houseRuns", fn := fun _ => fun
  | [d1, d2] => { results := [.lit (.bool false)], args := [d1, d2] }
  | _ => none }
def HouseRunsWrongFalsely : Prop := houseRunsRow.holds Try.pinned (OpenSpec.ofChange houseRunsWrong)

/-- 'oastlaw09.HouseQuestions': WHATEVER THE INPUT: true; the input reads as it did. -/
def houseQuestionsSpec : ChangeSpec := { name := "houseQuestions", fn := fun _ => fun
  | [d1, d2, d3] => { results := [.lit (.bool true)], args := [d1, d2, d3] }
  | _ => none }
def houseQuestionsRow : OpenClaim := { program := "ytfbbagnpdfafjaa", sum := "89d821cc74e9ca9819d65fd92cdc5d60a4c9b677f84cbf1ffc988c25ce25c5f4", func := "oast/oastlaw09.HouseQuestions", spec := "houseQuestions", inPlace := ["math/bits.Add64"], unfollowed := true, recurses := true, named := ["math/bits.divideError", "math/bits.overflowError"], apart := false }
def HouseQuestionsSaid : Prop := houseQuestionsRow.holds Try.pinned (OpenSpec.ofChange houseQuestionsSpec)

/-- ITS FALSE NEIGHBOUR: 'it returns false'. Refute it at one input. -/
def houseQuestionsWrong : ChangeSpec := { name := "houseQuestions", fn := fun _ => fun
  | [d1, d2, d3] => { results := [.lit (.bool false)], args := [d1, d2, d3] }
  | _ => none }
def HouseQuestionsWrongFalsely : Prop := houseQuestionsRow.holds Try.pinned (OpenSpec.ofChange houseQuestionsWrong)

/-- 'oastlaw09.HouseFalls': WHATEVER THE INPUT: true; the input reads as it did. -/
def houseFallsSpec : ChangeSpec := { name := "houseFalls", fn := fun _ => fun
  | [d1, d2, d3] => { results := [.lit (.bool true)], args := [d1, d2, d3] }
  | _ => none }
def houseFallsRow : OpenClaim := { program := "ytfbbagnpdfafjaa", sum := "89d821cc74e9ca9819d65fd92cdc5d60a4c9b677f84cbf1ffc988c25ce25c5f4", func := "oast/oastlaw09.HouseFalls", spec := "houseFalls", inPlace := ["math/bits.Add64"], unfollowed := true, recurses := true, named := ["math/bits.divideError", "math/bits.overflowError"], apart := false }
def HouseFallsSaid : Prop := houseFallsRow.holds Try.pinned (OpenSpec.ofChange houseFallsSpec)

/-- ITS FALSE NEIGHBOUR: 'it returns false'. Refute it at one input. -/
def houseFallsWrong : ChangeSpec := { name := "houseFalls", fn := fun _ => fun
  | [d1, d2, d3] => { results := [.lit (.bool false)], args := [d1, d2, d3] }
  | _ => none }
def HouseFallsWrongFalsely : Prop := houseFallsRow.holds Try.pinned (OpenSpec.ofChange houseFallsWrong)

/-- 'oastlaw09.HouseOwn': WHATEVER THE INPUT: true; the input reads as it did. -/
def houseOwnSpec : ChangeSpec := { name := "houseOwn", fn := fun _ => fun
  | [d1, d2] => { results := [.lit (.bool true)], args := [d1, d2] }
  | _ => none }
def houseOwnRow : OpenClaim := { program := "ytfbbagnpdfafjaa", sum := "89d821cc74e9ca9819d65fd92cdc5d60a4c9b677f84cbf1ffc988c25ce25c5f4", func := "oast/oastlaw09.HouseOwn", spec := "houseOwn", inPlace := ["math/bits.Add64"], unfollowed := true, recurses := true, named := ["math/bits.divideError", "math/bits.overflowError"], apart := false }
def HouseOwnSaid : Prop := houseOwnRow.holds Try.pinned (OpenSpec.ofChange houseOwnSpec)

/-- ITS FALSE NEIGHBOUR: 'it returns false'. Refute it at one input. -/
def houseOwnWrong : ChangeSpec := { name := "houseOwn", fn := fun _ => fun
  | [d1, d2] => { results := [.lit (.bool false)], args := [d1, d2] }
  | _ => none }
def HouseOwnWrongFalsely : Prop := houseOwnRow.holds Try.pinned (OpenSpec.ofChange houseOwnWrong)

/-- 'oastlaw09.HouseChecks': WHATEVER THE INPUT: true; the input reads as it did. -/
def houseChecksSpec : ChangeSpec := { name := "houseChecks", fn := fun _ => fun
  | [d] => { results := [.lit (.bool true)], args := [d] }
  | _ => none }
def houseChecksRow : OpenClaim := { program := "ytfbbagnpdfafjaa", sum := "89d821cc74e9ca9819d65fd92cdc5d60a4c9b677f84cbf1ffc988c25ce25c5f4", func := "oast/oastlaw09.HouseChecks", spec := "houseChecks", inPlace := ["math/bits.Add64"], unfollowed := true, recurses := true, named := ["math/bits.divideError", "math/bits.overflowError"], apart := false }
def HouseChecksSaid : Prop := houseChecksRow.holds Try.pinned (OpenSpec.ofChange houseChecksSpec)

/-- ITS FALSE NEIGHBOUR: 'it returns false'. Refute it at one input. -/
def houseChecksWrong : ChangeSpec := { name := "houseChecks", fn := fun _ => fun
  | [d] => { results := [.lit (.bool false)], args := [d] }
  | _ => none }
def HouseChecksWrongFalsely : Prop := houseChecksRow.holds Try.pinned (OpenSpec.ofChange houseChecksWrong)

/-- 'oastlaw09.HouseForks': WHATEVER THE INPUT: true; the input reads as it did. -/
def houseForksSpec : ChangeSpec := { name := "houseForks", fn := fun _ => fun
  | [d1, d2, d3] => { results := [.lit (.bool true)], args := [d1, d2, d3] }
  | _ => none }
def houseForksRow : OpenClaim := { program := "ytfbbagnpdfafjaa", sum := "89d821cc74e9ca9819d65fd92cdc5d60a4c9b677f84cbf1ffc988c25ce25c5f4", func := "oast/oastlaw09.HouseForks", spec := "houseForks", inPlace := ["math/bits.Add64"], unfollowed := true, recurses := true, named := ["math/bits.divideError", "math/bits.overflowError"], apart := false }
def HouseForksSaid : Prop := houseForksRow.holds Try.pinned (OpenSpec.ofChange houseForksSpec)

/-- ITS FALSE NEIGHBOUR: 'it returns false'. Refute it at one input. -/
def houseForksWrong : ChangeSpec := { name := "houseForks", fn := fun _ => fun
  | [d1, d2, d3] => { results := [.lit (.bool false)], args := [d1, d2, d3] }
  | _ => none }
def HouseForksWrongFalsely : Prop := houseForksRow.holds Try.pinned (OpenSpec.ofChange houseForksWrong)

/-- 'oastlaw09.HouseReturns': WHATEVER THE INPUT: true; the input reads as it did. -/
def houseReturnsSpec : ChangeSpec := { name := "houseReturns", fn := fun _ => fun
  | [d1, d2, d3] => { results := [.lit (.bool true)], args := [d1, d2, d3] }
  | _ => none }
def houseReturnsRow : OpenClaim := { program := "ytfbbagnpdfafjaa", sum := "89d821cc74e9ca9819d65fd92cdc5d60a4c9b677f84cbf1ffc988c25ce25c5f4", func := "oast/oastlaw09.HouseReturns", spec := "houseReturns", inPlace := ["math/bits.Add64"], unfollowed := true, recurses := true, named := ["math/bits.divideError", "math/bits.overflowError"], apart := false }
def HouseReturnsSaid : Prop := houseReturnsRow.holds Try.pinned (OpenSpec.ofChange houseReturnsSpec)

/-- ITS FALSE NEIGHBOUR: 'it returns false'. Refute it at one input. -/
def houseReturnsWrong : ChangeSpec := { name := "houseReturns", fn := fun _ => fun
  | [d1, d2, d3] => { results := [.lit (.bool false)], args := [d1, d2, d3] }
  | _ => none }
def HouseReturnsWrongFalsely : Prop := houseReturnsRow.holds Try.pinned (OpenSpec.ofChange houseReturnsWrong)

/-- 'oasttop.TopDealt': WHATEVER THE INPUT: true; the input reads as it did. -/
def topDealtSpec : ChangeSpec := { name := "topDealt", fn := fun _ => fun
  | [d1, d2, d3] => { results := [.lit (.bool true)], args := [d1, d2, d3] }
  | _ => none }
def topDealtRow : OpenClaim := { program := "ytfbbagnpdfafjaa", sum := "89d821cc74e9ca9819d65fd92cdc5d60a4c9b677f84cbf1ffc988c25ce25c5f4", func := "oast/oasttop.TopDealt", spec := "topDealt", inPlace := ["math/bits.Add64"], unfollowed := true, recurses := true, named := ["math/bits.divideError", "math/bits.overflowError"], apart := false }
def TopDealtSaid : Prop := topDealtRow.holds Try.pinned (OpenSpec.ofChange topDealtSpec)

/-- ITS FALSE NEIGHBOUR: 'it returns false'. Refute it at one input. -/
def topDealtWrong : ChangeSpec := { name := "topDealt", fn := fun _ => fun
  | [d1, d2, d3] => { results := [.lit (.bool false)], args := [d1, d2, d3] }
  | _ => none }
def TopDealtWrongFalsely : Prop := topDealtRow.holds Try.pinned (OpenSpec.ofChange topDealtWrong)

/-- 'oasttop.TopMarked': WHATEVER THE INPUT: true; the input reads as it did. -/
def topMarkedSpec : ChangeSpec := { name := "topMarked", fn := fun _ => fun
  | [d1, d2] => { results := [.lit (.bool true)], args := [d1, d2] }
  | _ => none }
def topMarkedRow : OpenClaim := { program := "ytfbbagnpdfafjaa", sum := "89d821cc74e9ca9819d65fd92cdc5d60a4c9b677f84cbf1ffc988c25ce25c5f4", func := "oast/oasttop.TopMarked", spec := "topMarked", inPlace := ["math/bits.Add64"], unfollowed := true, recurses := true, named := ["math/bits.divideError", "math/bits.overflowError"], apart := false }
def TopMarkedSaid : Prop := topMarkedRow.holds Try.pinned (OpenSpec.ofChange topMarkedSpec)

/-- ITS FALSE NEIGHBOUR: 'it returns false'. Refute it at one input. -/
def topMarkedWrong : ChangeSpec := { name := "topMarked", fn := fun _ => fun
  | [d1, d2] => { results := [.lit (.bool false)], args := [d1, d2] }
  | _ => none }
def TopMarkedWrongFalsely : Prop := topMarkedRow.holds Try.pinned (OpenSpec.ofChange topMarkedWrong)

/- THE SECOND FORM. 'bulk': how many values and letters a reading holds, each counted each time it is reached (what is shared counts as often as it is met; a slice's spare places count too). A statement '..UptoSaid' is the law's where the arguments, and the package variables that the reading takes, are together of bulk at most 1048576: NARROWER than '..Said'. Prove '..Said' where nothing that the law and all that it calls make is longer than what came in: it says more and counts as full. Else prove '..UptoSaid'. A law counts once. -/
mutual
def uptoBulk {H : Type} : DataW H → Nat
  | .lit (.string bytes) => bytes.length + 1
  | .lit _ => 1
  | .nil => 1
  | .ptr d => uptoBulk d + 1
  | .slice elems spare => uptoBulkAll elems + uptoBulkAll spare + 1
  | .agg parts => uptoBulkAll parts + 1
  | .iface _ d => uptoBulk d + 1
  | .map entries => uptoBulkEntries entries + 1
  | .held _ => 1
def uptoBulkAll {H : Type} : List (DataW H) → Nat
  | [] => 0
  | d :: r => uptoBulk d + uptoBulkAll r
def uptoBulkEntries {H : Type} : List (Lit × DataW H) → Nat
  | [] => 0
  | x :: r => uptoBulkEntry x + uptoBulkEntries r
def uptoBulkEntry {H : Type} : Lit × DataW H → Nat
  | (.string bytes, d) => bytes.length + uptoBulk d + 1
  | (_, d) => uptoBulk d + 1
 end
def uptoSmall : (H : Type) → List (DataW H) → Bool := fun _ ds => decide (uptoBulkAll ds ≤ 1048576)
def OpenSpec.upto (s : _root_.Go.ChangeSpec) : _root_.Go.OpenSpec := { _root_.Go.OpenSpec.ofChange s with cond := some uptoSmall }

/-- 'oastlaw09.HouseSpreads', WHERE WHAT IT READS IS OF BULK AT MOST 1048576: true; the input reads as it did. -/
def houseSpreadsUptoRow : OpenClaim := { program := "ytfbbagnpdfafjaa", sum := "89d821cc74e9ca9819d65fd92cdc5d60a4c9b677f84cbf1ffc988c25ce25c5f4", func := "oast/oastlaw09.HouseSpreads", spec := "houseSpreads", inPlace := ["math/bits.Add64"], unfollowed := true, recurses := true, named := ["math/bits.divideError", "math/bits.overflowError"], apart := false, narrowed := true }
def HouseSpreadsUptoSaid : Prop := houseSpreadsUptoRow.holds Try.pinned (OpenSpec.upto houseSpreadsSpec)

/-- 'oastlaw09.HouseKeeps', WHERE WHAT IT READS IS OF BULK AT MOST 1048576: true; the input reads as it did. -/
def houseKeepsUptoRow : OpenClaim := { program := "ytfbbagnpdfafjaa", sum := "89d821cc74e9ca9819d65fd92cdc5d60a4c9b677f84cbf1ffc988c25ce25c5f4", func := "oast/oastlaw09.HouseKeeps", spec := "houseKeeps", inPlace := ["math/bits.Add64"], unfollowed := true, recurses := true, named := ["math/bits.divideError", "math/bits.overflowError"], apart := false, narrowed := true }
def HouseKeepsUptoSaid : Prop := houseKeepsUptoRow.holds Try.pinned (OpenSpec.upto houseKeepsSpec)

/-- 'oastlaw09.HouseHolds', WHERE WHAT IT READS IS OF BULK AT MOST 1048576: true; the input reads as it did. -/
def houseHoldsUptoRow : OpenClaim := { program := "ytfbbagnpdfafjaa", sum := "89d821cc74e9ca9819d65fd92cdc5d60a4c9b677f84cbf1ffc988c25ce25c5f4", func := "oast/oastlaw09.HouseHolds", spec := "houseHolds", inPlace := ["math/bits.Add64"], unfollowed := true, recurses := true, named := ["math/bits.divideError", "math/bits.overflowError"], apart := false, narrowed := true }
def HouseHoldsUptoSaid : Prop := houseHoldsUptoRow.holds Try.pinned (OpenSpec.upto houseHoldsSpec)

/-- 'oastlaw09.HouseRuns', WHERE WHAT IT READS IS OF BULK AT MOST 1048576: true; the input reads as it did. -/
def houseRunsUptoRow : OpenClaim := { program := "ytfbbagnpdfafjaa", sum := "89d821cc74e9ca9819d65fd92cdc5d60a4c9b677f84cbf1ffc988c25ce25c5f4", func := "oast/oastlaw09.HouseRuns", spec := "houseRuns", inPlace := ["math/bits.Add64"], unfollowed := true, recurses := true, named := ["math/bits.divideError", "math/bits.overflowError"], apart := false, narrowed := true }
def HouseRunsUptoSaid : Prop := houseRunsUptoRow.holds Try.pinned (OpenSpec.upto houseRunsSpec)

/-- 'oastlaw09.HouseQuestions', WHERE WHAT IT READS IS OF BULK AT MOST 1048576: true; the input reads as it did. -/
def houseQuestionsUptoRow : OpenClaim := { program := "ytfbbagnpdfafjaa", sum := "89d821cc74e9ca9819d65fd92cdc5d60a4c9b677f84cbf1ffc988c25ce25c5f4", func := "oast/oastlaw09.HouseQuestions", spec := "houseQuestions", inPlace := ["math/bits.Add64"], unfollowed := true, recurses := true, named := ["math/bits.divideError", "math/bits.overflowError"], apart := false, narrowed := true }
def HouseQuestionsUptoSaid : Prop := houseQuestionsUptoRow.holds Try.pinned (OpenSpec.upto houseQuestionsSpec)

/-- 'oastlaw09.HouseFalls', WHERE WHAT IT READS IS OF BULK AT MOST 1048576: true; the input reads as it did. -/
def houseFallsUptoRow : OpenClaim := { program := "ytfbbagnpdfafjaa", sum := "89d821cc74e9ca9819d65fd92cdc5d60a4c9b677f84cbf1ffc988c25ce25c5f4", func := "oast/oastlaw09.HouseFalls", spec := "houseFalls", inPlace := ["math/bits.Add64"], unfollowed := true, recurses := true, named := ["math/bits.divideError", "math/bits.overflowError"], apart := false, narrowed := true }
def HouseFallsUptoSaid : Prop := houseFallsUptoRow.holds Try.pinned (OpenSpec.upto houseFallsSpec)

/-- 'oastlaw09.HouseOwn', WHERE WHAT IT READS IS OF BULK AT MOST 1048576: true; the input reads as it did. -/
def houseOwnUptoRow : OpenClaim := { program := "ytfbbagnpdfafjaa", sum := "89d821cc74e9ca9819d65fd92cdc5d60a4c9b677f84cbf1ffc988c25ce25c5f4", func := "oast/oastlaw09.HouseOwn", spec := "houseOwn", inPlace := ["math/bits.Add64"], unfollowed := true, recurses := true, named := ["math/bits.divideError", "math/bits.overflowError"], apart := false, narrowed := true }
def HouseOwnUptoSaid : Prop := houseOwnUptoRow.holds Try.pinned (OpenSpec.upto houseOwnSpec)

/-- 'oastlaw09.HouseChecks', WHERE WHAT IT READS IS OF BULK AT MOST 1048576: true; the input reads as it did. -/
def houseChecksUptoRow : OpenClaim := { program := "ytfbbagnpdfafjaa", sum := "89d821cc74e9ca9819d65fd92cdc5d60a4c9b677f84cbf1ffc988c25ce25c5f4", func := "oast/oastlaw09.HouseChecks", spec := "houseChecks", inPlace := ["math/bits.Add64"], unfollowed := true, recurses := true, named := ["math/bits.divideError", "math/bits.overflowError"], apart := false, narrowed := true }
def HouseChecksUptoSaid : Prop := houseChecksUptoRow.holds Try.pinned (OpenSpec.upto houseChecksSpec)

/-- 'oastlaw09.HouseForks', WHERE WHAT IT READS IS OF BULK AT MOST 1048576: true; the input reads as it did. -/
def houseForksUptoRow : OpenClaim := { program := "ytfbbagnpdfafjaa", sum := "89d821cc74e9ca9819d65fd92cdc5d60a4c9b677f84cbf1ffc988c25ce25c5f4", func := "oast/oastlaw09.HouseForks", spec := "houseForks", inPlace := ["math/bits.Add64"], unfollowed := true, recurses := true, named := ["math/bits.divideError", "math/bits.overflowError"], apart := false, narrowed := true }
def HouseForksUptoSaid : Prop := houseForksUptoRow.holds Try.pinned (OpenSpec.upto houseForksSpec)

/-- 'oastlaw09.HouseReturns', WHERE WHAT IT READS IS OF BULK AT MOST 1048576: true; the input reads as it did. -/
def houseReturnsUptoRow : OpenClaim := { program := "ytfbbagnpdfafjaa", sum := "89d821cc74e9ca9819d65fd92cdc5d60a4c9b677f84cbf1ffc988c25ce25c5f4", func := "oast/oastlaw09.HouseReturns", spec := "houseReturns", inPlace := ["math/bits.Add64"], unfollowed := true, recurses := true, named := ["math/bits.divideError", "math/bits.overflowError"], apart := false, narrowed := true }
def HouseReturnsUptoSaid : Prop := houseReturnsUptoRow.holds Try.pinned (OpenSpec.upto houseReturnsSpec)

/-- 'oasttop.TopDealt', WHERE WHAT IT READS IS OF BULK AT MOST 1048576: true; the input reads as it did. -/
def topDealtUptoRow : OpenClaim := { program := "ytfbbagnpdfafjaa", sum := "89d821cc74e9ca9819d65fd92cdc5d60a4c9b677f84cbf1ffc988c25ce25c5f4", func := "oast/oasttop.TopDealt", spec := "topDealt", inPlace := ["math/bits.Add64"], unfollowed := true, recurses := true, named := ["math/bits.divideError", "math/bits.overflowError"], apart := false, narrowed := true }
def TopDealtUptoSaid : Prop := topDealtUptoRow.holds Try.pinned (OpenSpec.upto topDealtSpec)

/-- 'oasttop.TopMarked', WHERE WHAT IT READS IS OF BULK AT MOST 1048576: true; the input reads as it did. -/
def topMarkedUptoRow : OpenClaim := { program := "ytfbbagnpdfafjaa", sum := "89d821cc74e9ca9819d65fd92cdc5d60a4c9b677f84cbf1ffc988c25ce25c5f4", func := "oast/oasttop.TopMarked", spec := "topMarked", inPlace := ["math/bits.Add64"], unfollowed := true, recurses := true, named := ["math/bits.divideError", "math/bits.overflowError"], apart := false, narrowed := true }
def TopMarkedUptoSaid : Prop := topMarkedUptoRow.holds Try.pinned (OpenSpec.upto topMarkedSpec)

end Rows
end Go.Proofs.Ytfbbagnpdfafjaa
