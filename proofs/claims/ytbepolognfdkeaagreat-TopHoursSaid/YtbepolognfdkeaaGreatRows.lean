/-
  No cell of these rows narrows 'for every input' (looked for: loops, veiled, ifaces, maps, wideKeys, modest, calm, conditions, laid).
  DERIVED. THE GIVEN ROWS OF THIS SEAT. 2 by the template 'for every input the law returns true; each argument reads behind the call as it read before'; 0 by the template 'total and deterministic' (their statements: YtbepolognfdkeaaGreatTotals.lean).
  GIVEN WITH THE SEED: the statements are not yours to turn. If you find one false, say at which input.
  Laid BY PROGRAM, IN A SANDBOX (cutbox-rows.mjs): the forced cells as the released guide's own fill.sh prints them over the translation 6309e0020698020f… (all of the seat's roots in one cut). By AI agents, Wed Nov 11 2026. No macro, syntax, notation, axiom, sorry.
-/
import Derived.Test.YtbepolognfdkeaaGreatChecked
import GoSem.Claim
import GoSem.ClaimJoined
import GoSem.ClaimMapViews
import Derived.JoinedTies
import Derived.KernelRfl
namespace Go.Proofs.YtbepolognfdkeaaGreat
/- THE CELL 'sum', in the pinned program and in every row, IS THE sha256 OF THE DUMP (.gsa) THAT YtbepolognfdkeaaGreatProg.lean LOADS. Nothing in Lean hashes anything: it is a label: what it is worth is what the hold of that sum in a sandbox is worth. -/
noncomputable def Tryz.pinned : Pinned := { name := "ytbepolognfdkeaagreat", sum := "6309e0020698020f7acb577fc0318f90a3f9bc1cdee02a1b5440b12b77a61b06", checked := Tryz.checked }
namespace Rows
def none {H : Type} : Left H := { results := [], args := [] }

/-- 'oastlaw07.DryChecks': WHATEVER THE INPUT: true; the input reads as it did. -/
def dryChecksSpec : ChangeSpec := { name := "dryChecks", fn := fun _ => fun
  | [d1, d2] => { results := [.lit (.bool true)], args := [d1, d2] }
  | _ => none }
def dryChecksRow : OpenClaim := { program := "ytbepolognfdkeaagreat", sum := "6309e0020698020f7acb577fc0318f90a3f9bc1cdee02a1b5440b12b77a61b06", func := "oast/oastlaw07.DryChecks", spec := "dryChecks", unfollowed := true, recurses := true, apart := false }
def DryChecksSaid : Prop := dryChecksRow.holds Tryz.pinned (OpenSpec.ofChange dryChecksSpec)

/-- ITS FALSE NEIGHBOUR: 'it returns false'. Refute it at one input. -/
def dryChecksWrong : ChangeSpec := { name := "dryChecks", fn := fun _ => fun
  | [d1, d2] => { results := [.lit (.bool false)], args := [d1, d2] }
  | _ => none }
def DryChecksWrongFalsely : Prop := dryChecksRow.holds Tryz.pinned (OpenSpec.ofChange dryChecksWrong)

/-- 'oasttop.TopHours': WHATEVER THE INPUT: true; the input reads as it did. -/
def topHoursSpec : ChangeSpec := { name := "topHours", fn := fun _ => fun
  | [d] => { results := [.lit (.bool true)], args := [d] }
  | _ => none }
def topHoursRow : OpenClaim := { program := "ytbepolognfdkeaagreat", sum := "6309e0020698020f7acb577fc0318f90a3f9bc1cdee02a1b5440b12b77a61b06", func := "oast/oasttop.TopHours", spec := "topHours", unfollowed := true, recurses := true, apart := false }
def TopHoursSaid : Prop := topHoursRow.holds Tryz.pinned (OpenSpec.ofChange topHoursSpec)

/-- ITS FALSE NEIGHBOUR: 'it returns false'. Refute it at one input. -/
def topHoursWrong : ChangeSpec := { name := "topHours", fn := fun _ => fun
  | [d] => { results := [.lit (.bool false)], args := [d] }
  | _ => none }
def TopHoursWrongFalsely : Prop := topHoursRow.holds Tryz.pinned (OpenSpec.ofChange topHoursWrong)

/- THE SECOND FORM. 'bulk': how many values and letters a reading holds, each counted each time it is reached (what is shared counts as often as it is met; a slice's spare places count too). A statement '..UptoSaid' is the law's where the arguments, and the package variables that the reading takes, are together of bulk at most 1048576: NARROWER than '..Said'. Prove '..Said' where nothing that the law and all that it calls make is longer than what came in: it says more and counts as full. Else prove '..UptoSaid'. A law counts once. -/
mutual
def uptoBulk {H : Type} : DataW H → Nat
  | .lit (.string bytes) => bytes.length + 1
  | .lit _ => 1
  | .nil => 1
  | .ptr d => uptoBulk d + 1
  | .slice elems spare => uptoBulkAll elems + uptoBulkAll spare + 1
  | .agg parts => uptoBulkAll parts + 1
  | .iface _ d => uptoBulk d + 1
  | .map entries => uptoBulkEntries entries + 1
  | .held _ => 1
def uptoBulkAll {H : Type} : List (DataW H) → Nat
  | [] => 0
  | d :: r => uptoBulk d + uptoBulkAll r
def uptoBulkEntries {H : Type} : List (Lit × DataW H) → Nat
  | [] => 0
  | x :: r => uptoBulkEntry x + uptoBulkEntries r
def uptoBulkEntry {H : Type} : Lit × DataW H → Nat
  | (.string bytes, d) => bytes.length + uptoBulk d + 1
  | (_, d) => uptoBulk d + 1
 end
def uptoSmall : (H : Type) → List (DataW H) → Bool := fun _ ds => decide (uptoBulkAll ds ≤ 1048576)
def OpenSpec.upto (s : _root_.Go.ChangeSpec) : _root_.Go.OpenSpec := { _root_.Go.OpenSpec.ofChange s with cond := some uptoSmall }

/-- 'oastlaw07.DryChecks', WHERE WHAT IT READS IS OF BULK AT MOST 1048576: true; the input reads as it did. -/
def dryChecksUptoRow : OpenClaim := { program := "ytbepolognfdkeaagreat", sum := "6309e0020698020f7acb577fc0318f90a3f9bc1cdee02a1b5440b12b77a61b06", func := "oast/oastlaw07.DryChecks", spec := "dryChecks", unfollowed := true, recurses := true, apart := false, narrowed := true }
def DryChecksUptoSaid : Prop := dryChecksUptoRow.holds Tryz.pinned (OpenSpec.upto dryChecksSpec)

/-- 'oasttop.TopHours', WHERE WHAT IT READS IS OF BULK AT MOST 1048576: true; the input reads as it did. -/
def topHoursUptoRow : OpenClaim := { program := "ytbepolognfdkeaagreat", sum := "6309e0020698020f7acb577fc0318f90a3f9bc1cdee02a1b5440b12b77a61b06", func := "oast/oasttop.TopHours", spec := "topHours", unfollowed := true, recurses := true, apart := false, narrowed := true }
def TopHoursUptoSaid : Prop := topHoursUptoRow.holds Tryz.pinned (OpenSpec.upto topHoursSpec)

end Rows
end Go.Proofs.YtbepolognfdkeaaGreat
