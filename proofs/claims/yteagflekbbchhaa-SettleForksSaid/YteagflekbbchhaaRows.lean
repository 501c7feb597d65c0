/-
  No cell of these rows narrows 'for every input' (looked for: loops, veiled, ifaces, maps, wideKeys, modest, calm, conditions, laid).
  DERIVED. THE GIVEN ROWS OF THIS SEAT. 10 by the template 'for every input the law returns true; each argument reads behind the call as it read before'; 0 by the template 'total and deterministic' (their statements: YteagflekbbchhaaTotals.lean).
  GIVEN WITH THE SEED: the statements are not yours to turn. If you find one false, say at which input.
  Laid BY PROGRAM, IN A SANDBOX (cutbox-rows.mjs): the forced cells as the released guide's own fill.sh prints them over the translation 3a016664d5ba50c0… (all of the seat's roots in one cut). By AI agents, Wed Nov 11 2026. No macro, syntax, notation, axiom, sorry.
-/
import Derived.Test.YteagflekbbchhaaChecked
import GoSem.Claim
import GoSem.ClaimJoined
import GoSem.ClaimMapViews
import Derived.JoinedTies
import Derived.KernelRfl
namespace Go.Proofs.Yteagflekbbchhaa
/- THE CELL 'sum', in the pinned program and in every row, IS THE sha256 OF THE DUMP (.gsa) THAT YteagflekbbchhaaProg.lean LOADS. Nothing in Lean hashes anything: it is a label: what it is worth is what the hold of that sum in a sandbox is worth. -/
noncomputable def Try.pinned : Pinned := { name := "yteagflekbbchhaa", sum := "3a016664d5ba50c0388b5e610711845fb99ca3a4eba526f35e4040d9010087b9", checked := Try.checked }
namespace Rows
def none {H : Type} : Left H := { results := [], args := [] }

/-- 'oastlaw08.SettleFair': WHATEVER THE INPUT: true; the input reads as it did. -/
def settleFairSpec : ChangeSpec := { name := "settleFair", fn := fun _ => fun
  | [d1, d2] => { results := [.lit (.bool true)], args := [d1, d2] }
  | _ => none }
def settleFairRow : OpenClaim := { program := "yteagflekbbchhaa", sum := "3a016664d5ba50c0388b5e610711845fb99ca3a4eba526f35e4040d9010087b9", func := "oast/oastlaw08.SettleFair", spec := "settleFair", unfollowed := true, recurses := true, apart := false }
def SettleFairSaid : Prop := settleFairRow.holds Try.pinned (OpenSpec.ofChange settleFairSpec)

/-- ITS FALSE NEIGHBOUR: 'it returns false'. Refute it at one input. -/
def settleFairWrong : ChangeSpec := { name := "settleFair", fn := fun _ => fun
  | [d1, d2] => { results := [.lit (.bool false)], args := [d1, d2] }
  | _ => none }
def SettleFairWrongFalsely : Prop := settleFairRow.holds Try.pinned (OpenSpec.ofChange settleFairWrong)

/-- 'oastlaw08.SettleStays': WHATEVER THE INPUT: true; the input reads as it did. -/
def settleStaysSpec : ChangeSpec := { name := "settleStays", fn := fun _ => fun
  | [d1, d2] => { results := [.lit (.bool true)], args := [d1, d2] }
  | _ => none }
def settleStaysRow : OpenClaim := { program := "yteagflekbbchhaa", sum := "3a016664d5ba50c0388b5e610711845fb99ca3a4eba526f35e4040d9010087b9", func := "oast/oastlaw08.SettleStays", spec := "settleStays", unfollowed := true, recurses := true, apart := false }
def SettleStaysSaid : Prop := settleStaysRow.holds Try.pinned (OpenSpec.ofChange settleStaysSpec)

/-- ITS FALSE NEIGHBOUR: 'it returns false'. Refute it at one input. -/
def settleStaysWrong : ChangeSpec := { name := "settleStays", fn := fun _ => fun
  | [d1, d2] => { results := [.lit (.bool false)], args := [d1, d2] }
  | _ => none }
def SettleStaysWrongFalsely : Prop := settleStaysRow.holds Try.pinned (OpenSpec.ofChange settleStaysWrong)

/-- 'oastlaw08.SettleTogether': WHATEVER THE INPUT: true; the input reads as it did. -/
def settleTogetherSpec : ChangeSpec := { name := "settleTogether", fn := fun _ => fun
  | [d1, d2] => { results := [.lit (.bool true)], args := [d1, d2] }
  | _ => none }
def settleTogetherRow : OpenClaim := { program := "yteagflekbbchhaa", sum := "3a016664d5ba50c0388b5e610711845fb99ca3a4eba526f35e4040d9010087b9", func := "oast/oastlaw08.SettleTogether", spec := "settleTogether", unfollowed := true, recurses := true, apart := false }
def SettleTogetherSaid : Prop := settleTogetherRow.holds Try.pinned (OpenSpec.ofChange settleTogetherSpec)

/-- ITS FALSE NEIGHBOUR: 'it returns false'. Refute it at one input. -/
def settleTogetherWrong : ChangeSpec := { name := "settleTogether", fn := fun _ => fun
  | [d1, d2] => { results := [.lit (.bool false)], args := [d1, d2] }
  | _ => none }
def SettleTogetherWrongFalsely : Prop := settleTogetherRow.holds Try.pinned (OpenSpec.ofChange settleTogetherWrong)

/-- 'oastlaw08.SettleCrashes': WHATEVER THE INPUT: true; the input reads as it did. -/
def settleCrashesSpec : ChangeSpec := { name := "settleCrashes", fn := fun _ => fun
  | [d1, d2, d3] => { results := [.lit (.bool true)], args := [d1, d2, d3] }
  | _ => none }
def settleCrashesRow : OpenClaim := { program := "yteagflekbbchhaa", sum := "3a016664d5ba50c0388b5e610711845fb99ca3a4eba526f35e4040d9010087b9", func := "oast/oastlaw08.SettleCrashes", spec := "settleCrashes", unfollowed := true, recurses := true, apart := false }
def SettleCrashesSaid : Prop := settleCrashesRow.holds Try.pinned (OpenSpec.ofChange settleCrashesSpec)

/-- ITS FALSE NEIGHBOUR: 'it returns false'. Refute it at one input. -/
def settleCrashesWrong : ChangeSpec := { name := "settleCrashes", fn := fun _ => fun
  | [d1, d2, d3] => { results := [.lit (.bool false)], args := [d1, d2, d3] }
  | _ => none }
def SettleCrashesWrongFalsely : Prop := settleCrashesRow.holds Try.pinned (OpenSpec.ofChange settleCrashesWrong)

/-- 'oastlaw08.SettleEnds': WHATEVER THE INPUT: true; the input reads as it did. -/
def settleEndsSpec : ChangeSpec := { name := "settleEnds", fn := fun _ => fun
  | [d1, d2] => { results := [.lit (.bool true)], args := [d1, d2] }
  | _ => none }
def settleEndsRow : OpenClaim := { program := "yteagflekbbchhaa", sum := "3a016664d5ba50c0388b5e610711845fb99ca3a4eba526f35e4040d9010087b9", func := "oast/oastlaw08.SettleEnds", spec := "settleEnds", unfollowed := true, recurses := true, apart := false }
def SettleEndsSaid : Prop := settleEndsRow.holds Try.pinned (OpenSpec.ofChange settleEndsSpec)

/-- ITS FALSE NEIGHBOUR: 'it returns false'. Refute it at one input. -/
def settleEndsWrong : ChangeSpec := { name := "settleEnds", fn := fun _ => fun
  | [d1, d2] => { results := [.lit (.bool false)], args := [d1, d2] }
  | _ => none }
def SettleEndsWrongFalsely : Prop := settleEndsRow.holds Try.pinned (OpenSpec.ofChange settleEndsWrong)

/-- 'oastlaw08.SettleRuns': WHATEVER THE INPUT: true; the input reads as it did. -/
def settleRunsSpec : ChangeSpec := { name := "settleRuns", fn := fun _ => fun
  | [d1, d2] => { results := [.lit (.bool true)], args := [d1, d2] }
  | _ => none }
def settleRunsRow : OpenClaim := { program := "yteagflekbbchhaa", sum := "3a016664d5ba50c0388b5e610711845fb99ca3a4eba526f35e4040d9010087b9", func := "oast/oastlaw08.SettleRuns", spec := "settleRuns", unfollowed := true, recurses := true, apart := false }
def SettleRunsSaid : Prop := settleRunsRow.holds Try.pinned (OpenSpec.ofChange settleRunsSpec)

/-- ITS FALSE NEIGHBOUR: 'it returns false'. Refute it at one input. -/
def settleRunsWrong : ChangeSpec := { name := "settleRuns", fn := fun _ => fun
  | [d1, d2] => { results := [.lit (.bool false)], args := [d1, d2] }
  | _ => none }
def SettleRunsWrongFalsely : Prop := settleRunsRow.holds Try.pinned (OpenSpec.ofChange settleRunsWrong)

/-- 'oastlaw08.SettleQuestions': WHATEVER THE INPUT: true; the input reads as it did. -/
def settleQuestionsSpec : ChangeSpec := { name := "settleQuestions", fn := fun _ => fun
  | [d1, d2, d3] => { results := [.lit (.bool true)], args := [d1, d2, d3] }
  | _ => none }
def settleQuestionsRow : OpenClaim := { program := "yteagflekbbchhaa", sum := "3a016664d5ba50c0388b5e610711845fb99ca3a4eba526f35e4040d9010087b9", func := "oast/oastlaw08.SettleQuestions", spec := "settleQuestions", unfollowed := true, recurses := true, apart := false }
def SettleQuestionsSaid : Prop := settleQuestionsRow.holds Try.pinned (OpenSpec.ofChange settleQuestionsSpec)

/-- ITS FALSE NEIGHBOUR: 'it returns false'. Refute it at one input. -/
def settleQuestionsWrong : ChangeSpec := { name := "settleQuestions", fn := fun _ => fun
  | [d1, d2, d3] => { results := [.lit (.bool false)], args := [d1, d2, d3] }
  | _ => none }
def SettleQuestionsWrongFalsely : Prop := settleQuestionsRow.holds Try.pinned (OpenSpec.ofChange settleQuestionsWrong)

/-- 'oastlaw08.SettleOwn': WHATEVER THE INPUT: true; the input reads as it did. -/
def settleOwnSpec : ChangeSpec := { name := "settleOwn", fn := fun _ => fun
  | [d1, d2] => { results := [.lit (.bool true)], args := [d1, d2] }
  | _ => none }
def settleOwnRow : OpenClaim := { program := "yteagflekbbchhaa", sum := "3a016664d5ba50c0388b5e610711845fb99ca3a4eba526f35e4040d9010087b9", func := "oast/oastlaw08.SettleOwn", spec := "settleOwn", unfollowed := true, recurses := true, apart := false }
def SettleOwnSaid : Prop := settleOwnRow.holds Try.pinned (OpenSpec.ofChange settleOwnSpec)

/-- ITS FALSE NEIGHBOUR: 'it returns false'. Refute it at one input. -/
def settleOwnWrong : ChangeSpec := { name := "settleOwn", fn := fun _ => fun
  | [d1, d2] => { results := [.lit (.bool false)], args := [d1, d2] }
  | _ => none }
def SettleOwnWrongFalsely : Prop := settleOwnRow.holds Try.pinned (OpenSpec.ofChange settleOwnWrong)

/-- 'oastlaw08.SettleWorlds': WHATEVER THE INPUT: true; the input reads as it did. -/
def settleWorldsSpec : ChangeSpec := { name := "settleWorlds", fn := fun _ => fun
  | [d] => { results := [.lit (.bool true)], args := [d] }
  | _ => none }
def settleWorldsRow : OpenClaim := { program := "yteagflekbbchhaa", sum := "3a016664d5ba50c0388b5e610711845fb99ca3a4eba526f35e4040d9010087b9", func := "oast/oastlaw08.SettleWorlds", spec := "settleWorlds", unfollowed := true, recurses := true, apart := false }
def SettleWorldsSaid : Prop := settleWorldsRow.holds Try.pinned (OpenSpec.ofChange settleWorldsSpec)

/-- ITS FALSE NEIGHBOUR: 'it returns false'. Refute it at one input. -/
def settleWorldsWrong : ChangeSpec := { name := "settleWorlds", fn := fun _ => fun
  | [d] => { results := [.lit (.bool false)], args := [d] }
  | _ => none }
def SettleWorldsWrongFalsely : Prop := settleWorldsRow.holds Try.pinned (OpenSpec.ofChange settleWorldsWrong)

/-- 'oastlaw08.SettleForks': WHATEVER THE INPUT: true; the input reads as it did. -/
def settleForksSpec : ChangeSpec := { name := "settleForks", fn := fun _ => fun
  | [d1, d2, d3] => { results := [.lit (.bool true)], args := [d1, d2, d3] }
  | _ => none }
def settleForksRow : OpenClaim := { program := "yteagflekbbchhaa", sum := "3a016664d5ba50c0388b5e610711845fb99ca3a4eba526f35e4040d9010087b9", func := "oast/oastlaw08.SettleForks", spec := "settleForks", unfollowed := true, recurses := true, apart := false }
def SettleForksSaid : Prop := settleForksRow.holds Try.pinned (OpenSpec.ofChange settleForksSpec)

/-- ITS FALSE NEIGHBOUR: 'it returns false'. Refute it at one input. -/
def settleForksWrong : ChangeSpec := { name := "settleForks", fn := fun _ => fun
  | [d1, d2, d3] => { results := [.lit (.bool false)], args := [d1, d2, d3] }
  | _ => none }
def SettleForksWrongFalsely : Prop := settleForksRow.holds Try.pinned (OpenSpec.ofChange settleForksWrong)

/- THE SECOND FORM. 'bulk': how many values and letters a reading holds, each counted each time it is reached (what is shared counts as often as it is met; a slice's spare places count too). A statement '..UptoSaid' is the law's where the arguments, and the package variables that the reading takes, are together of bulk at most 1048576: NARROWER than '..Said'. Prove '..Said' where nothing that the law and all that it calls make is longer than what came in: it says more and counts as full. Else prove '..UptoSaid'. A law counts once. -/
mutual
def uptoBulk {H : Type} : DataW H → Nat
  | .lit (.string bytes) => bytes.length + 1
  | .lit _ => 1
  | .nil => 1
  | .ptr d => uptoBulk d + 1
  | .slice elems spare => uptoBulkAll elems + uptoBulkAll spare + 1
  | .agg parts => uptoBulkAll parts + 1
  | .iface _ d => uptoBulk d + 1
  | .map entries => uptoBulkEntries entries + 1
  | .held _ => 1
def uptoBulkAll {H : Type} : List (DataW H) → Nat
  | [] => 0
  | d :: r => uptoBulk d + uptoBulkAll r
def uptoBulkEntries {H : Type} : List (Lit × DataW H) → Nat
  | [] => 0
  | x :: r => uptoBulkEntry x + uptoBulkEntries r
def uptoBulkEntry {H : Type} : Lit × DataW H → Nat
  | (.string bytes, d) => bytes.length + uptoBulk d + 1
  | (_, d) => uptoBulk d + 1
 end
def uptoSmall : (H : Type) → List (DataW H) → Bool := fun _ ds => decide (uptoBulkAll ds ≤ 1048576)
def OpenSpec.upto (s : _root_.Go.ChangeSpec) : _root_.Go.OpenSpec := { _root_.Go.OpenSpec.ofChange s with cond := some uptoSmall }

/-- 'oastlaw08.SettleFair', WHERE WHAT IT READS IS OF BULK AT MOST 1048576: true; the input reads as it did. -/
def settleFairUptoRow : OpenClaim := { program := "yteagflekbbchhaa", sum := "3a016664d5ba50c0388b5e610711845fb99ca3a4eba526f35e4040d9010087b9", func := "oast/oastlaw08.SettleFair", spec := "settleFair", unfollowed := true, recurses := true, apart := false, narrowed := true }
def SettleFairUptoSaid : Prop := settleFairUptoRow.holds Try.pinned (OpenSpec.upto settleFairSpec)

/-- 'oastlaw08.SettleStays', WHERE WHAT IT READS IS OF BULK AT MOST 1048576: true; the input reads as it did. -/
def settleStaysUptoRow : OpenClaim := { program := "yteagflekbbchhaa", sum := "3a016664d5ba50c0388b5e610711845fb99ca3a4eba526f35e4040d9010087b9", func := "oast/oastlaw08.SettleStays", spec := "settleStays", unfollowed := true, recurses := true, apart := false, narrowed := true }
def SettleStaysUptoSaid : Prop := settleStaysUptoRow.holds Try.pinned (OpenSpec.upto settleStaysSpec)

/-- 'oastlaw08.SettleTogether', WHERE WHAT IT READS IS OF BULK AT MOST 1048576: true; the input reads as it did. -/
def settleTogetherUptoRow : OpenClaim := { program := "yteagflekbbchhaa", sum := "3a016664d5ba50c0388b5e610711845fb99ca3a4eba526f35e4040d9010087b9", func := "oast/oastlaw08.SettleTogether", spec := "settleTogether", unfollowed := true, recurses := true, apart := false, narrowed := true }
def SettleTogetherUptoSaid : Prop := settleTogetherUptoRow.holds Try.pinned (OpenSpec.upto settleTogetherSpec)

/-- 'oastlaw08.SettleCrashes', WHERE WHAT IT READS IS OF BULK AT MOST 1048576: true; the input reads as it did. -/
def settleCrashesUptoRow : OpenClaim := { program := "yteagflekbbchhaa", sum := "3a016664d5ba50c0388b5e610711845fb99ca3a4eba526f35e4040d9010087b9", func := "oast/oastlaw08.SettleCrashes", spec := "settleCrashes", unfollowed := true, recurses := true, apart := false, narrowed := true }
def SettleCrashesUptoSaid : Prop := settleCrashesUptoRow.holds Try.pinned (OpenSpec.upto settleCrashesSpec)

/-- 'oastlaw08.SettleEnds', WHERE WHAT IT READS IS OF BULK AT MOST 1048576: true; the input reads as it did. -/
def settleEndsUptoRow : OpenClaim := { program := "yteagflekbbchhaa", sum := "3a016664d5ba50c0388b5e610711845fb99ca3a4eba526f35e4040d9010087b9", func := "oast/oastlaw08.SettleEnds", spec := "settleEnds", unfollowed := true, recurses := true, apart := false, narrowed := true }
def SettleEndsUptoSaid : Prop := settleEndsUptoRow.holds Try.pinned (OpenSpec.upto settleEndsSpec)

/-- 'oastlaw08.SettleRuns', WHERE WHAT IT READS IS OF BULK AT MOST 1048576: true; the input reads as it did. -/
def settleRunsUptoRow : OpenClaim := { program := "yteagflekbbchhaa", sum := "3a016664d5ba50c0388b5e610711845fb99ca3a4eba526f35e4040d9010087b9", func := "oast/oastlaw08.SettleRuns", spec := "settleRuns", unfollowed := true, recurses := true, apart := false, narrowed := true }
def SettleRunsUptoSaid : Prop := settleRunsUptoRow.holds Try.pinned (OpenSpec.upto settleRunsSpec)

/-- 'oastlaw08.SettleQuestions', WHERE WHAT IT READS IS OF BULK AT MOST 1048576: true; the input reads as it did. -/
def settleQuestionsUptoRow : OpenClaim := { program := "yteagflekbbchhaa", sum := "3a016664d5ba50c0388b5e610711845fb99ca3a4eba526f35e4040d9010087b9", func := "oast/oastlaw08.SettleQuestions", spec := "settleQuestions", unfollowed := true, recurses := true, apart := false, narrowed := true }
def SettleQuestionsUptoSaid : Prop := settleQuestionsUptoRow.holds Try.pinned (OpenSpec.upto settleQuestionsSpec)

/-- 'oastlaw08.SettleOwn', WHERE WHAT IT READS IS OF BULK AT MOST 1048576: true; the input reads as it did. -/
def settleOwnUptoRow : OpenClaim := { program := "yteagflekbbchhaa", sum := "3a016664d5ba50c0388b5e610711845fb99ca3a4eba526f35e4040d9010087b9", func := "oast/oastlaw08.SettleOwn", spec := "settleOwn", unfollowed := true, recurses := true, apart := false, narrowed := true }
def SettleOwnUptoSaid : Prop := settleOwnUptoRow.holds Try.pinned (OpenSpec.upto settleOwnSpec)

/-- 'oastlaw08.SettleWorlds', WHERE WHAT IT READS IS OF BULK AT MOST 1048576: true; the input reads as it did. -/
def settleWorldsUptoRow : OpenClaim := { program := "yteagflekbbchhaa", sum := "3a016664d5ba50c0388b5e610711845fb99ca3a4eba526f35e4040d9010087b9", func := "oast/oastlaw08.SettleWorlds", spec := "settleWorlds", unfollowed := true, recurses := true, apart := false, narrowed := true }
def SettleWorldsUptoSaid : Prop := settleWorldsUptoRow.holds Try.pinned (OpenSpec.upto settleWorldsSpec)

/-- 'oastlaw08.SettleForks', WHERE WHAT IT READS IS OF BULK AT MOST 1048576: true; the input reads as it did. -/
def settleForksUptoRow : OpenClaim := { program := "yteagflekbbchhaa", sum := "3a016664d5ba50c0388b5e610711845fb99ca3a4eba526f35e4040d9010087b9", func := "oast/oastlaw08.SettleForks", spec := "settleForks", unfollowed := true, recurses := true, apart := false, narrowed := true }
def SettleForksUptoSaid : Prop := settleForksUptoRow.holds Try.pinned (OpenSpec.upto settleForksSpec)

end Rows
end Go.Proofs.Yteagflekbbchhaa
