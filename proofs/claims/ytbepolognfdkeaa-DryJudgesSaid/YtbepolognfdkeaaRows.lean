/-
  No cell of these rows narrows 'for every input' (looked for: loops, veiled, ifaces, maps, wideKeys, modest, calm, conditions, laid).
  DERIVED. THE GIVEN ROWS OF THIS SEAT. 10 by the template 'for every input the law returns true; each argument reads behind the call as it read before'; 0 by the template 'total and deterministic' (their statements: YtbepolognfdkeaaTotals.lean).
  GIVEN WITH THE SEED: the statements are not yours to turn. If you find one false, say at which input.
  Laid BY PROGRAM, IN A SANDBOX (cutbox-rows.mjs): the forced cells as the released guide's own fill.sh prints them over the translation e0c69d2e74e3a005… (all of the seat's roots in one cut). By AI agents, Wed Nov 11 2026. No macro, syntax, notation, axiom, sorry.
-/
import Derived.Test.YtbepolognfdkeaaChecked
import GoSem.Claim
import GoSem.ClaimJoined
import GoSem.ClaimMapViews
import Derived.JoinedTies
import Derived.KernelRfl
namespace Go.Proofs.Ytbepolognfdkeaa
/- THE CELL 'sum', in the pinned program and in every row, IS THE sha256 OF THE DUMP (.gsa) THAT YtbepolognfdkeaaProg.lean LOADS. Nothing in Lean hashes anything: it is a label: what it is worth is what the hold of that sum in a sandbox is worth. -/
noncomputable def Try.pinned : Pinned := { name := "ytbepolognfdkeaa", sum := "e0c69d2e74e3a005bc012d250d009242e526dbf096b4de328ab9455b7b2766ea", checked := Try.checked }
namespace Rows
def none {H : Type} : Left H := { results := [], args := [] }

/-- 'oastlaw07.DryKilns': WHATEVER THE INPUT: true; the input reads as it did. -/
def dryKilnsSpec : ChangeSpec := { name := "dryKilns", fn := fun _ => fun
  | [d] => { results := [.lit (.bool true)], args := [d] }
  | _ => none }
def dryKilnsRow : OpenClaim := { program := "ytbepolognfdkeaa", sum := "e0c69d2e74e3a005bc012d250d009242e526dbf096b4de328ab9455b7b2766ea", func := "oast/oastlaw07.DryKilns", spec := "dryKilns", unfollowed := true, recurses := true, apart := false }
def DryKilnsSaid : Prop := dryKilnsRow.holds Try.pinned (OpenSpec.ofChange dryKilnsSpec)

/-- ITS FALSE NEIGHBOUR: 'it returns false'. Refute it at one input. -/
def dryKilnsWrong : ChangeSpec := { name := "dryKilns", fn := fun _ => fun
  | [d] => { results := [.lit (.bool false)], args := [d] }
  | _ => none }
def DryKilnsWrongFalsely : Prop := dryKilnsRow.holds Try.pinned (OpenSpec.ofChange dryKilnsWrong)

/-- 'oastlaw07.DryPlans': WHATEVER THE INPUT: true; the input reads as it did. -/
def dryPlansSpec : ChangeSpec := { name := "dryPlans", fn := fun _ => fun
  | [d1, d2] => { results := [.lit (.bool true)], args := [d1, d2] }
  | _ => none }
def dryPlansRow : OpenClaim := { program := "ytbepolognfdkeaa", sum := "e0c69d2e74e3a005bc012d250d009242e526dbf096b4de328ab9455b7b2766ea", func := "oast/oastlaw07.DryPlans", spec := "dryPlans", unfollowed := true, recurses := true, apart := false }
def DryPlansSaid : Prop := dryPlansRow.holds Try.pinned (OpenSpec.ofChange dryPlansSpec)

/-- ITS FALSE NEIGHBOUR: 'it returns false'. Refute it at one input. -/
def dryPlansWrong : ChangeSpec := { name := "dryPlans", fn := fun _ => fun
  | [d1, d2] => { results := [.lit (.bool false)], args := [d1, d2] }
  | _ => none }
def DryPlansWrongFalsely : Prop := dryPlansRow.holds Try.pinned (OpenSpec.ofChange dryPlansWrong)

/-- 'oastlaw07.DryBusy': WHATEVER THE INPUT: true; the input reads as it did. -/
def dryBusySpec : ChangeSpec := { name := "dryBusy", fn := fun _ => fun
  | [d] => { results := [.lit (.bool true)], args := [d] }
  | _ => none }
def dryBusyRow : OpenClaim := { program := "ytbepolognfdkeaa", sum := "e0c69d2e74e3a005bc012d250d009242e526dbf096b4de328ab9455b7b2766ea", func := "oast/oastlaw07.DryBusy", spec := "dryBusy", unfollowed := true, recurses := true, apart := false }
def DryBusySaid : Prop := dryBusyRow.holds Try.pinned (OpenSpec.ofChange dryBusySpec)

/-- ITS FALSE NEIGHBOUR: 'it returns false'. Refute it at one input. -/
def dryBusyWrong : ChangeSpec := { name := "dryBusy", fn := fun _ => fun
  | [d] => { results := [.lit (.bool false)], args := [d] }
  | _ => none }
def DryBusyWrongFalsely : Prop := dryBusyRow.holds Try.pinned (OpenSpec.ofChange dryBusyWrong)

/-- 'oastlaw07.DryDelays': WHATEVER THE INPUT: true; the input reads as it did. -/
def dryDelaysSpec : ChangeSpec := { name := "dryDelays", fn := fun _ => fun
  | [d1, d2] => { results := [.lit (.bool true)], args := [d1, d2] }
  | _ => none }
def dryDelaysRow : OpenClaim := { program := "ytbepolognfdkeaa", sum := "e0c69d2e74e3a005bc012d250d009242e526dbf096b4de328ab9455b7b2766ea", func := "oast/oastlaw07.DryDelays", spec := "dryDelays", unfollowed := true, recurses := true, apart := false }
def DryDelaysSaid : Prop := dryDelaysRow.holds Try.pinned (OpenSpec.ofChange dryDelaysSpec)

/-- ITS FALSE NEIGHBOUR: 'it returns false'. Refute it at one input. -/
def dryDelaysWrong : ChangeSpec := { name := "dryDelays", fn := fun _ => fun
  | [d1, d2] => { results := [.lit (.bool false)], args := [d1, d2] }
  | _ => none }
def DryDelaysWrongFalsely : Prop := dryDelaysRow.holds Try.pinned (OpenSpec.ofChange dryDelaysWrong)

/-- 'oastlaw07.DryMore': WHATEVER THE INPUT: true; the input reads as it did. -/
def dryMoreSpec : ChangeSpec := { name := "dryMore", fn := fun _ => fun
  | [d1, d2, d3] => { results := [.lit (.bool true)], args := [d1, d2, d3] }
  | _ => none }
def dryMoreRow : OpenClaim := { program := "ytbepolognfdkeaa", sum := "e0c69d2e74e3a005bc012d250d009242e526dbf096b4de328ab9455b7b2766ea", func := "oast/oastlaw07.DryMore", spec := "dryMore", unfollowed := true, recurses := true, apart := false }
def DryMoreSaid : Prop := dryMoreRow.holds Try.pinned (OpenSpec.ofChange dryMoreSpec)

/-- ITS FALSE NEIGHBOUR: 'it returns false'. Refute it at one input. -/
def dryMoreWrong : ChangeSpec := { name := "dryMore", fn := fun _ => fun
  | [d1, d2, d3] => { results := [.lit (.bool false)], args := [d1, d2, d3] }
  | _ => none }
def DryMoreWrongFalsely : Prop := dryMoreRow.holds Try.pinned (OpenSpec.ofChange dryMoreWrong)

/-- 'oastlaw07.DryJudges': WHATEVER THE INPUT: true; the input reads as it did. -/
def dryJudgesSpec : ChangeSpec := { name := "dryJudges", fn := fun _ => fun
  | [d1, d2, d3] => { results := [.lit (.bool true)], args := [d1, d2, d3] }
  | _ => none }
def dryJudgesRow : OpenClaim := { program := "ytbepolognfdkeaa", sum := "e0c69d2e74e3a005bc012d250d009242e526dbf096b4de328ab9455b7b2766ea", func := "oast/oastlaw07.DryJudges", spec := "dryJudges", unfollowed := true, recurses := true, apart := false }
def DryJudgesSaid : Prop := dryJudgesRow.holds Try.pinned (OpenSpec.ofChange dryJudgesSpec)

/-- ITS FALSE NEIGHBOUR: 'it returns false'. Refute it at one input. -/
def dryJudgesWrong : ChangeSpec := { name := "dryJudges", fn := fun _ => fun
  | [d1, d2, d3] => { results := [.lit (.bool false)], args := [d1, d2, d3] }
  | _ => none }
def DryJudgesWrongFalsely : Prop := dryJudgesRow.holds Try.pinned (OpenSpec.ofChange dryJudgesWrong)

/-- 'oastlaw07.DryBest': WHATEVER THE INPUT: true; the input reads as it did. -/
def dryBestSpec : ChangeSpec := { name := "dryBest", fn := fun _ => fun
  | [d1, d2] => { results := [.lit (.bool true)], args := [d1, d2] }
  | _ => none }
def dryBestRow : OpenClaim := { program := "ytbepolognfdkeaa", sum := "e0c69d2e74e3a005bc012d250d009242e526dbf096b4de328ab9455b7b2766ea", func := "oast/oastlaw07.DryBest", spec := "dryBest", unfollowed := true, recurses := true, apart := false }
def DryBestSaid : Prop := dryBestRow.holds Try.pinned (OpenSpec.ofChange dryBestSpec)

/-- ITS FALSE NEIGHBOUR: 'it returns false'. Refute it at one input. -/
def dryBestWrong : ChangeSpec := { name := "dryBest", fn := fun _ => fun
  | [d1, d2] => { results := [.lit (.bool false)], args := [d1, d2] }
  | _ => none }
def DryBestWrongFalsely : Prop := dryBestRow.holds Try.pinned (OpenSpec.ofChange dryBestWrong)

/-- 'oastlaw07.DrySets': WHATEVER THE INPUT: true; the input reads as it did. -/
def drySetsSpec : ChangeSpec := { name := "drySets", fn := fun _ => fun
  | [d1, d2, d3] => { results := [.lit (.bool true)], args := [d1, d2, d3] }
  | _ => none }
def drySetsRow : OpenClaim := { program := "ytbepolognfdkeaa", sum := "e0c69d2e74e3a005bc012d250d009242e526dbf096b4de328ab9455b7b2766ea", func := "oast/oastlaw07.DrySets", spec := "drySets", unfollowed := true, recurses := true, apart := false }
def DrySetsSaid : Prop := drySetsRow.holds Try.pinned (OpenSpec.ofChange drySetsSpec)

/-- ITS FALSE NEIGHBOUR: 'it returns false'. Refute it at one input. -/
def drySetsWrong : ChangeSpec := { name := "drySets", fn := fun _ => fun
  | [d1, d2, d3] => { results := [.lit (.bool false)], args := [d1, d2, d3] }
  | _ => none }
def DrySetsWrongFalsely : Prop := drySetsRow.holds Try.pinned (OpenSpec.ofChange drySetsWrong)

/-- 'oastlaw07.DryShifts': WHATEVER THE INPUT: true; the input reads as it did. -/
def dryShiftsSpec : ChangeSpec := { name := "dryShifts", fn := fun _ => fun
  | [d1, d2, d3] => { results := [.lit (.bool true)], args := [d1, d2, d3] }
  | _ => none }
def dryShiftsRow : OpenClaim := { program := "ytbepolognfdkeaa", sum := "e0c69d2e74e3a005bc012d250d009242e526dbf096b4de328ab9455b7b2766ea", func := "oast/oastlaw07.DryShifts", spec := "dryShifts", unfollowed := true, recurses := true, apart := false }
def DryShiftsSaid : Prop := dryShiftsRow.holds Try.pinned (OpenSpec.ofChange dryShiftsSpec)

/-- ITS FALSE NEIGHBOUR: 'it returns false'. Refute it at one input. -/
def dryShiftsWrong : ChangeSpec := { name := "dryShifts", fn := fun _ => fun
  | [d1, d2, d3] => { results := [.lit (.bool false)], args := [d1, d2, d3] }
  | _ => none }
def DryShiftsWrongFalsely : Prop := dryShiftsRow.holds Try.pinned (OpenSpec.ofChange dryShiftsWrong)

/-- 'oastlaw07.DryEarly': WHATEVER THE INPUT: true; the input reads as it did. -/
def dryEarlySpec : ChangeSpec := { name := "dryEarly", fn := fun _ => fun
  | [d1, d2] => { results := [.lit (.bool true)], args := [d1, d2] }
  | _ => none }
def dryEarlyRow : OpenClaim := { program := "ytbepolognfdkeaa", sum := "e0c69d2e74e3a005bc012d250d009242e526dbf096b4de328ab9455b7b2766ea", func := "oast/oastlaw07.DryEarly", spec := "dryEarly", unfollowed := true, recurses := true, apart := false }
def DryEarlySaid : Prop := dryEarlyRow.holds Try.pinned (OpenSpec.ofChange dryEarlySpec)

/-- ITS FALSE NEIGHBOUR: 'it returns false'. Refute it at one input. -/
def dryEarlyWrong : ChangeSpec := { name := "dryEarly", fn := fun _ => fun
  | [d1, d2] => { results := [.lit (.bool false)], args := [d1, d2] }
  | _ => none }
def DryEarlyWrongFalsely : Prop := dryEarlyRow.holds Try.pinned (OpenSpec.ofChange dryEarlyWrong)

/- THE SECOND FORM. 'bulk': how many values and letters a reading holds, each counted each time it is reached (what is shared counts as often as it is met; a slice's spare places count too). A statement '..UptoSaid' is the law's where the arguments, and the package variables that the reading takes, are together of bulk at most 1048576: NARROWER than '..Said'. Prove '..Said' where nothing that the law and all that it calls make is longer than what came in: it says more and counts as full. Else prove '..UptoSaid'. A law counts once. -/
mutual
def uptoBulk {H : Type} : DataW H → Nat
  | .lit (.string bytes) => bytes.length + 1
  | .lit _ => 1
  | .nil => 1
  | .ptr d => uptoBulk d + 1
  | .slice elems spare => uptoBulkAll elems + uptoBulkAll spare + 1
  | .agg parts => uptoBulkAll parts + 1
  | .iface _ d => uptoBulk d + 1
  | .map entries => uptoBulkEntries entries + 1
  | .held _ => 1
def uptoBulkAll {H : Type} : List (DataW H) → Nat
  | [] => 0
  | d :: r => uptoBulk d + uptoBulkAll r
def uptoBulkEntries {H : Type} : List (Lit × DataW H) → Nat
  | [] => 0
  | x :: r => uptoBulkEntry x + uptoBulkEntries r
def uptoBulkEntry {H : Type} : Lit × DataW H → Nat
  | (.string bytes, d) => bytes.length + uptoBulk d + 1
  | (_, d) => uptoBulk d + 1
 end
def uptoSmall : (H : Type) → List (DataW H) → Bool := fun _ ds => decide (uptoBulkAll ds ≤ 1048576)
def OpenSpec.upto (s : _root_.Go.ChangeSpec) : _root_.Go.OpenSpec := { _root_.Go.OpenSpec.ofChange s with cond := some uptoSmall }

/-- 'oastlaw07.DryKilns', WHERE WHAT IT READS IS OF BULK AT MOST 1048576: true; the input reads as it did. -/
def dryKilnsUptoRow : OpenClaim := { program := "ytbepolognfdkeaa", sum := "e0c69d2e74e3a005bc012d250d009242e526dbf096b4de328ab9455b7b2766ea", func := "oast/oastlaw07.DryKilns", spec := "dryKilns", unfollowed := true, recurses := true, apart := false, narrowed := true }
def DryKilnsUptoSaid : Prop := dryKilnsUptoRow.holds Try.pinned (OpenSpec.upto dryKilnsSpec)

/-- 'oastlaw07.DryPlans', WHERE WHAT IT READS IS OF BULK AT MOST 1048576: true; the input reads as it did. -/
def dryPlansUptoRow : OpenClaim := { program := "ytbepolognfdkeaa", sum := "e0c69d2e74e3a005bc012d250d009242e526dbf096b4de328ab9455b7b2766ea", func := "oast/oastlaw07.DryPlans", spec := "dryPlans", unfollowed := true, recurses := true, apart := false, narrowed := true }
def DryPlansUptoSaid : Prop := dryPlansUptoRow.holds Try.pinned (OpenSpec.upto dryPlansSpec)

/-- 'oastlaw07.DryBusy', WHERE WHAT IT READS IS OF BULK AT MOST 1048576: true; the input reads as it did. -/
def dryBusyUptoRow : OpenClaim := { program := "ytbepolognfdkeaa", sum := "e0c69d2e74e3a005bc012d250d009242e526dbf096b4de328ab9455b7b2766ea", func := "oast/oastlaw07.DryBusy", spec := "dryBusy", unfollowed := true, recurses := true, apart := false, narrowed := true }
def DryBusyUptoSaid : Prop := dryBusyUptoRow.holds Try.pinned (OpenSpec.upto dryBusySpec)

/-- 'oastlaw07.DryDelays', WHERE WHAT IT READS IS OF BULK AT MOST 1048576: true; the input reads as it did. -/
def dryDelaysUptoRow : OpenClaim := { program := "ytbepolognfdkeaa", sum := "e0c69d2e74e3a005bc012d250d009242e526dbf096b4de328ab9455b7b2766ea", func := "oast/oastlaw07.DryDelays", spec := "dryDelays", unfollowed := true, recurses := true, apart := false, narrowed := true }
def DryDelaysUptoSaid : Prop := dryDelaysUptoRow.holds Try.pinned (OpenSpec.upto dryDelaysSpec)

/-- 'oastlaw07.DryMore', WHERE WHAT IT READS IS OF BULK AT MOST 1048576: true; the input reads as it did. -/
def dryMoreUptoRow : OpenClaim := { program := "ytbepolognfdkeaa", sum := "e0c69d2e74e3a005bc012d250d009242e526dbf096b4de328ab9455b7b2766ea", func := "oast/oastlaw07.DryMore", spec := "dryMore", unfollowed := true, recurses := true, apart := false, narrowed := true }
def DryMoreUptoSaid : Prop := dryMoreUptoRow.holds Try.pinned (OpenSpec.upto dryMoreSpec)

/-- 'oastlaw07.DryJudges', WHERE WHAT IT READS IS OF BULK AT MOST 1048576: true; the input reads as it did. -/
def dryJudgesUptoRow : OpenClaim := { program := "ytbepolognfdkeaa", sum := "e0c69d2e74e3a005bc012d250d009242e526dbf096b4de328ab9455b7b2766ea", func := "oast/oastlaw07.DryJudges", spec := "dryJudges", unfollowed := true, recurses := true, apart := false, narrowed := true }
def DryJudgesUptoSaid : Prop := dryJudgesUptoRow.holds Try.pinned (OpenSpec.upto dryJudgesSpec)

/-- 'oastlaw07.DryBest', WHERE WHAT IT READS IS OF BULK AT MOST 1048576: true; the input reads as it did. -/
def dryBestUptoRow : OpenClaim := { program := "ytbepolognfdkeaa", sum := "e0c69d2e74e3a005bc012d250d009242e526dbf096b4de328ab9455b7b2766ea", func := "oast/oastlaw07.DryBest", spec := "dryBest", unfollowed := true, recurses := true, apart := false, narrowed := true }
def DryBestUptoSaid : Prop := dryBestUptoRow.holds Try.pinned (OpenSpec.upto dryBestSpec)

/-- 'oastlaw07.DrySets', WHERE WHAT IT READS IS OF BULK AT MOST 1048576: true; the input reads as it did. -/
def drySetsUptoRow : OpenClaim := { program := "ytbepolognfdkeaa", sum := "e0c69d2e74e3a005bc012d250d009242e526dbf096b4de328ab9455b7b2766ea", func := "oast/oastlaw07.DrySets", spec := "drySets", unfollowed := true, recurses := true, apart := false, narrowed := true }
def DrySetsUptoSaid : Prop := drySetsUptoRow.holds Try.pinned (OpenSpec.upto drySetsSpec)

/-- 'oastlaw07.DryShifts', WHERE WHAT IT READS IS OF BULK AT MOST 1048576: true; the input reads as it did. -/
def dryShiftsUptoRow : OpenClaim := { program := "ytbepolognfdkeaa", sum := "e0c69d2e74e3a005bc012d250d009242e526dbf096b4de328ab9455b7b2766ea", func := "oast/oastlaw07.DryShifts", spec := "dryShifts", unfollowed := true, recurses := true, apart := false, narrowed := true }
def DryShiftsUptoSaid : Prop := dryShiftsUptoRow.holds Try.pinned (OpenSpec.upto dryShiftsSpec)

/-- 'oastlaw07.DryEarly', WHERE WHAT IT READS IS OF BULK AT MOST 1048576: true; the input reads as it did. -/
def dryEarlyUptoRow : OpenClaim := { program := "ytbepolognfdkeaa", sum := "e0c69d2e74e3a005bc012d250d009242e526dbf096b4de328ab9455b7b2766ea", func := "oast/oastlaw07.DryEarly", spec := "dryEarly", unfollowed := true, recurses := true, apart := false, narrowed := true }
def DryEarlyUptoSaid : Prop := dryEarlyUptoRow.holds Try.pinned (OpenSpec.upto dryEarlySpec)

end Rows
end Go.Proofs.Ytbepolognfdkeaa
