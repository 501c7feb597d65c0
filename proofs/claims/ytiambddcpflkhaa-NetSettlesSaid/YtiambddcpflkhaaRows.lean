/-
  No cell of these rows narrows 'for every input' (looked for: loops, veiled, ifaces, maps, wideKeys, modest, calm, conditions, laid).
  DERIVED. THE GIVEN ROWS OF THIS SEAT. 10 by the template 'for every input the law returns true; each argument reads behind the call as it read before'; 0 by the template 'total and deterministic' (their statements: YtiambddcpflkhaaTotals.lean).
  GIVEN WITH THE SEED: the statements are not yours to turn. If you find one false, say at which input.
  Laid BY PROGRAM, IN A SANDBOX (cutbox-rows.mjs): the forced cells as the released guide's own fill.sh prints them over the translation e28671a5781526a4… (all of the seat's roots in one cut). By AI agents, Wed Nov 11 2026. No macro, syntax, notation, axiom, sorry.
-/
import Derived.Test.YtiambddcpflkhaaChecked
import GoSem.Claim
import GoSem.ClaimJoined
import GoSem.ClaimMapViews
import Derived.JoinedTies
import Derived.KernelRfl
namespace Go.Proofs.Ytiambddcpflkhaa
/- THE CELL 'sum', in the pinned program and in every row, IS THE sha256 OF THE DUMP (.gsa) THAT YtiambddcpflkhaaProg.lean LOADS. Nothing in Lean hashes anything: it is a label: what it is worth is what the hold of that sum in a sandbox is worth. -/
noncomputable def Try.pinned : Pinned := { name := "ytiambddcpflkhaa", sum := "e28671a5781526a4c41c5e8a7d6e0468dbc2b5cd5c348af1bda065a60d43422a", checked := Try.checked }
namespace Rows
def none {H : Type} : Left H := { results := [], args := [] }

/-- 'oastlaw06.NetBounds': WHATEVER THE INPUT: true; the input reads as it did. -/
def netBoundsSpec : ChangeSpec := { name := "netBounds", fn := fun _ => fun
  | [d1, d2] => { results := [.lit (.bool true)], args := [d1, d2] }
  | _ => none }
def netBoundsRow : OpenClaim := { program := "ytiambddcpflkhaa", sum := "e28671a5781526a4c41c5e8a7d6e0468dbc2b5cd5c348af1bda065a60d43422a", func := "oast/oastlaw06.NetBounds", spec := "netBounds", unfollowed := true, recurses := true, named := ["math/bits.divideError", "math/bits.overflowError"], apart := false }
def NetBoundsSaid : Prop := netBoundsRow.holds Try.pinned (OpenSpec.ofChange netBoundsSpec)

/-- ITS FALSE NEIGHBOUR: 'it returns false'. Refute it at one input. -/
def netBoundsWrong : ChangeSpec := { name := "netBounds", fn := fun _ => fun
  | [d1, d2] => { results := [.lit (.bool false)], args := [d1, d2] }
  | _ => none }
def NetBoundsWrongFalsely : Prop := netBoundsRow.holds Try.pinned (OpenSpec.ofChange netBoundsWrong)

/-- 'oastlaw06.NetReceives': WHATEVER THE INPUT: true; the input reads as it did. -/
def netReceivesSpec : ChangeSpec := { name := "netReceives", fn := fun _ => fun
  | [d1, d2] => { results := [.lit (.bool true)], args := [d1, d2] }
  | _ => none }
def netReceivesRow : OpenClaim := { program := "ytiambddcpflkhaa", sum := "e28671a5781526a4c41c5e8a7d6e0468dbc2b5cd5c348af1bda065a60d43422a", func := "oast/oastlaw06.NetReceives", spec := "netReceives", unfollowed := true, recurses := true, named := ["math/bits.divideError", "math/bits.overflowError"], apart := false }
def NetReceivesSaid : Prop := netReceivesRow.holds Try.pinned (OpenSpec.ofChange netReceivesSpec)

/-- ITS FALSE NEIGHBOUR: 'it returns false'. Refute it at one input. -/
def netReceivesWrong : ChangeSpec := { name := "netReceives", fn := fun _ => fun
  | [d1, d2] => { results := [.lit (.bool false)], args := [d1, d2] }
  | _ => none }
def NetReceivesWrongFalsely : Prop := netReceivesRow.holds Try.pinned (OpenSpec.ofChange netReceivesWrong)

/-- 'oastlaw06.NetRescues': WHATEVER THE INPUT: true; the input reads as it did. -/
def netRescuesSpec : ChangeSpec := { name := "netRescues", fn := fun _ => fun
  | [d1, d2] => { results := [.lit (.bool true)], args := [d1, d2] }
  | _ => none }
def netRescuesRow : OpenClaim := { program := "ytiambddcpflkhaa", sum := "e28671a5781526a4c41c5e8a7d6e0468dbc2b5cd5c348af1bda065a60d43422a", func := "oast/oastlaw06.NetRescues", spec := "netRescues", unfollowed := true, recurses := true, named := ["math/bits.divideError", "math/bits.overflowError"], apart := false }
def NetRescuesSaid : Prop := netRescuesRow.holds Try.pinned (OpenSpec.ofChange netRescuesSpec)

/-- ITS FALSE NEIGHBOUR: 'it returns false'. Refute it at one input. -/
def netRescuesWrong : ChangeSpec := { name := "netRescues", fn := fun _ => fun
  | [d1, d2] => { results := [.lit (.bool false)], args := [d1, d2] }
  | _ => none }
def NetRescuesWrongFalsely : Prop := netRescuesRow.holds Try.pinned (OpenSpec.ofChange netRescuesWrong)

/-- 'oastlaw06.NetClears': WHATEVER THE INPUT: true; the input reads as it did. -/
def netClearsSpec : ChangeSpec := { name := "netClears", fn := fun _ => fun
  | [d] => { results := [.lit (.bool true)], args := [d] }
  | _ => none }
def netClearsRow : OpenClaim := { program := "ytiambddcpflkhaa", sum := "e28671a5781526a4c41c5e8a7d6e0468dbc2b5cd5c348af1bda065a60d43422a", func := "oast/oastlaw06.NetClears", spec := "netClears", unfollowed := true, recurses := true, named := ["math/bits.divideError", "math/bits.overflowError"], apart := false }
def NetClearsSaid : Prop := netClearsRow.holds Try.pinned (OpenSpec.ofChange netClearsSpec)

/-- ITS FALSE NEIGHBOUR: 'it returns false'. Refute it at one input. -/
def netClearsWrong : ChangeSpec := { name := "netClears", fn := fun _ => fun
  | [d] => { results := [.lit (.bool false)], args := [d] }
  | _ => none }
def NetClearsWrongFalsely : Prop := netClearsRow.holds Try.pinned (OpenSpec.ofChange netClearsWrong)

/-- 'oastlaw06.NetGreatest': WHATEVER THE INPUT: true; the input reads as it did. -/
def netGreatestSpec : ChangeSpec := { name := "netGreatest", fn := fun _ => fun
  | [d1, d2, d3] => { results := [.lit (.bool true)], args := [d1, d2, d3] }
  | _ => none }
def netGreatestRow : OpenClaim := { program := "ytiambddcpflkhaa", sum := "e28671a5781526a4c41c5e8a7d6e0468dbc2b5cd5c348af1bda065a60d43422a", func := "oast/oastlaw06.NetGreatest", spec := "netGreatest", unfollowed := true, recurses := true, named := ["math/bits.divideError", "math/bits.overflowError"], apart := false }
def NetGreatestSaid : Prop := netGreatestRow.holds Try.pinned (OpenSpec.ofChange netGreatestSpec)

/-- ITS FALSE NEIGHBOUR: 'it returns false'. Refute it at one input. -/
def netGreatestWrong : ChangeSpec := { name := "netGreatest", fn := fun _ => fun
  | [d1, d2, d3] => { results := [.lit (.bool false)], args := [d1, d2, d3] }
  | _ => none }
def NetGreatestWrongFalsely : Prop := netGreatestRow.holds Try.pinned (OpenSpec.ofChange netGreatestWrong)

/-- 'oastlaw06.NetJudges': WHATEVER THE INPUT: true; the input reads as it did. -/
def netJudgesSpec : ChangeSpec := { name := "netJudges", fn := fun _ => fun
  | [d1, d2] => { results := [.lit (.bool true)], args := [d1, d2] }
  | _ => none }
def netJudgesRow : OpenClaim := { program := "ytiambddcpflkhaa", sum := "e28671a5781526a4c41c5e8a7d6e0468dbc2b5cd5c348af1bda065a60d43422a", func := "oast/oastlaw06.NetJudges", spec := "netJudges", unfollowed := true, recurses := true, named := ["math/bits.divideError", "math/bits.overflowError"], apart := false }
def NetJudgesSaid : Prop := netJudgesRow.holds Try.pinned (OpenSpec.ofChange netJudgesSpec)

/-- ITS FALSE NEIGHBOUR: 'it returns false'. Refute it at one input. -/
def netJudgesWrong : ChangeSpec := { name := "netJudges", fn := fun _ => fun
  | [d1, d2] => { results := [.lit (.bool false)], args := [d1, d2] }
  | _ => none }
def NetJudgesWrongFalsely : Prop := netJudgesRow.holds Try.pinned (OpenSpec.ofChange netJudgesWrong)

/-- 'oastlaw06.NetCancels': WHATEVER THE INPUT: true; the input reads as it did. -/
def netCancelsSpec : ChangeSpec := { name := "netCancels", fn := fun _ => fun
  | [d] => { results := [.lit (.bool true)], args := [d] }
  | _ => none }
def netCancelsRow : OpenClaim := { program := "ytiambddcpflkhaa", sum := "e28671a5781526a4c41c5e8a7d6e0468dbc2b5cd5c348af1bda065a60d43422a", func := "oast/oastlaw06.NetCancels", spec := "netCancels", unfollowed := true, recurses := true, named := ["math/bits.divideError", "math/bits.overflowError"], apart := false }
def NetCancelsSaid : Prop := netCancelsRow.holds Try.pinned (OpenSpec.ofChange netCancelsSpec)

/-- ITS FALSE NEIGHBOUR: 'it returns false'. Refute it at one input. -/
def netCancelsWrong : ChangeSpec := { name := "netCancels", fn := fun _ => fun
  | [d] => { results := [.lit (.bool false)], args := [d] }
  | _ => none }
def NetCancelsWrongFalsely : Prop := netCancelsRow.holds Try.pinned (OpenSpec.ofChange netCancelsWrong)

/-- 'oastlaw06.NetSettles': WHATEVER THE INPUT: true; the input reads as it did. -/
def netSettlesSpec : ChangeSpec := { name := "netSettles", fn := fun _ => fun
  | [d] => { results := [.lit (.bool true)], args := [d] }
  | _ => none }
def netSettlesRow : OpenClaim := { program := "ytiambddcpflkhaa", sum := "e28671a5781526a4c41c5e8a7d6e0468dbc2b5cd5c348af1bda065a60d43422a", func := "oast/oastlaw06.NetSettles", spec := "netSettles", unfollowed := true, recurses := true, named := ["math/bits.divideError", "math/bits.overflowError"], apart := false }
def NetSettlesSaid : Prop := netSettlesRow.holds Try.pinned (OpenSpec.ofChange netSettlesSpec)

/-- ITS FALSE NEIGHBOUR: 'it returns false'. Refute it at one input. -/
def netSettlesWrong : ChangeSpec := { name := "netSettles", fn := fun _ => fun
  | [d] => { results := [.lit (.bool false)], args := [d] }
  | _ => none }
def NetSettlesWrongFalsely : Prop := netSettlesRow.holds Try.pinned (OpenSpec.ofChange netSettlesWrong)

/-- 'oastlaw06.NetCrises': WHATEVER THE INPUT: true; the input reads as it did. -/
def netCrisesSpec : ChangeSpec := { name := "netCrises", fn := fun _ => fun
  | [d1, d2] => { results := [.lit (.bool true)], args := [d1, d2] }
  | _ => none }
def netCrisesRow : OpenClaim := { program := "ytiambddcpflkhaa", sum := "e28671a5781526a4c41c5e8a7d6e0468dbc2b5cd5c348af1bda065a60d43422a", func := "oast/oastlaw06.NetCrises", spec := "netCrises", unfollowed := true, recurses := true, named := ["math/bits.divideError", "math/bits.overflowError"], apart := false }
def NetCrisesSaid : Prop := netCrisesRow.holds Try.pinned (OpenSpec.ofChange netCrisesSpec)

/-- ITS FALSE NEIGHBOUR: 'it returns false'. Refute it at one input. -/
def netCrisesWrong : ChangeSpec := { name := "netCrises", fn := fun _ => fun
  | [d1, d2] => { results := [.lit (.bool false)], args := [d1, d2] }
  | _ => none }
def NetCrisesWrongFalsely : Prop := netCrisesRow.holds Try.pinned (OpenSpec.ofChange netCrisesWrong)

/-- 'oastlaw06.NetChecks': WHATEVER THE INPUT: true; the input reads as it did. -/
def netChecksSpec : ChangeSpec := { name := "netChecks", fn := fun _ => fun
  | [d] => { results := [.lit (.bool true)], args := [d] }
  | _ => none }
def netChecksRow : OpenClaim := { program := "ytiambddcpflkhaa", sum := "e28671a5781526a4c41c5e8a7d6e0468dbc2b5cd5c348af1bda065a60d43422a", func := "oast/oastlaw06.NetChecks", spec := "netChecks", unfollowed := true, recurses := true, named := ["math/bits.divideError", "math/bits.overflowError"], apart := false }
def NetChecksSaid : Prop := netChecksRow.holds Try.pinned (OpenSpec.ofChange netChecksSpec)

/-- ITS FALSE NEIGHBOUR: 'it returns false'. Refute it at one input. -/
def netChecksWrong : ChangeSpec := { name := "netChecks", fn := fun _ => fun
  | [d] => { results := [.lit (.bool false)], args := [d] }
  | _ => none }
def NetChecksWrongFalsely : Prop := netChecksRow.holds Try.pinned (OpenSpec.ofChange netChecksWrong)

/- THE SECOND FORM. 'bulk': how many values and letters a reading holds, each counted each time it is reached (what is shared counts as often as it is met; a slice's spare places count too). A statement '..UptoSaid' is the law's where the arguments, and the package variables that the reading takes, are together of bulk at most 1048576: NARROWER than '..Said'. Prove '..Said' where nothing that the law and all that it calls make is longer than what came in: it says more and counts as full. Else prove '..UptoSaid'. A law counts once. -/
mutual
def uptoBulk {H : Type} : DataW H → Nat
  | .lit (.string bytes) => bytes.length + 1
  | .lit _ => 1
  | .nil => 1
  | .ptr d => uptoBulk d + 1
  | .slice elems spare => uptoBulkAll elems + uptoBulkAll spare + 1
  | .agg parts => uptoBulkAll parts + 1
  | .iface _ d => uptoBulk d + 1
  | .map entries => uptoBulkEntries entries + 1
  | .held _ => 1
def uptoBulkAll {H : Type} : List (DataW H) → Nat
  | [] => 0
  | d :: r => uptoBulk d + uptoBulkAll r
def uptoBulkEntries {H : Type} : List (Lit × DataW H) → Nat
  | [] => 0
  | x :: r => uptoBulkEntry x + uptoBulkEntries r
def uptoBulkEntry {H : Type} : Lit × DataW H → Nat
  | (.string bytes, d) => bytes.length + uptoBulk d + 1
  | (_, d) => uptoBulk d + 1
 end
def uptoSmall : (H : Type) → List (DataW H) → Bool := fun _ ds => decide (uptoBulkAll ds ≤ 1048576)
def OpenSpec.upto (s : _root_.Go.ChangeSpec) : _root_.Go.OpenSpec := { _root_.Go.OpenSpec.ofChange s with cond := some uptoSmall }

/-- 'oastlaw06.NetBounds', WHERE WHAT IT READS IS OF BULK AT MOST 1048576: true; the input reads as it did. -/
def netBoundsUptoRow : OpenClaim := { program := "ytiambddcpflkhaa", sum := "e28671a5781526a4c41c5e8a7d6e0468dbc2b5cd5c348af1bda065a60d43422a", func := "oast/oastlaw06.NetBounds", spec := "netBounds", unfollowed := true, recurses := true, named := ["math/bits.divideError", "math/bits.overflowError"], apart := false, narrowed := true }
def NetBoundsUptoSaid : Prop := netBoundsUptoRow.holds Try.pinned (OpenSpec.upto netBoundsSpec)

/-- 'oastlaw06.NetReceives', WHERE WHAT IT READS IS OF BULK AT MOST 1048576: true; the input reads as it did. -/
def netReceivesUptoRow : OpenClaim := { program := "ytiambddcpflkhaa", sum := "e28671a5781526a4c41c5e8a7d6e0468dbc2b5cd5c348af1bda065a60d43422a", func := "oast/oastlaw06.NetReceives", spec := "netReceives", unfollowed := true, recurses := true, named := ["math/bits.divideError", "math/bits.overflowError"], apart := false, narrowed := true }
def NetReceivesUptoSaid : Prop := netReceivesUptoRow.holds Try.pinned (OpenSpec.upto netReceivesSpec)

/-- 'oastlaw06.NetRescues', WHERE WHAT IT READS IS OF BULK AT MOST 1048576: true; the input reads as it did. -/
def netRescuesUptoRow : OpenClaim := { program := "ytiambddcpflkhaa", sum := "e28671a5781526a4c41c5e8a7d6e0468dbc2b5cd5c348af1bda065a60d43422a", func := "oast/oastlaw06.NetRescues", spec := "netRescues", unfollowed := true, recurses := true, named := ["math/bits.divideError", "math/bits.overflowError"], apart := false, narrowed := true }
def NetRescuesUptoSaid : Prop := netRescuesUptoRow.holds Try.pinned (OpenSpec.upto netRescuesSpec)

/-- 'oastlaw06.NetClears', WHERE WHAT IT READS IS OF BULK AT MOST 1048576: true; the input reads as it did. -/
def netClearsUptoRow : OpenClaim := { program := "ytiambddcpflkhaa", sum := "e28671a5781526a4c41c5e8a7d6e0468dbc2b5cd5c348af1bda065a60d43422a", func := "oast/oastlaw06.NetClears", spec := "netClears", unfollowed := true, recurses := true, named := ["math/bits.divideError", "math/bits.overflowError"], apart := false, narrowed := true }
def NetClearsUptoSaid : Prop := netClearsUptoRow.holds Try.pinned (OpenSpec.upto netClearsSpec)

/-- 'oastlaw06.NetGreatest', WHERE WHAT IT READS IS OF BULK AT MOST 1048576: true; the input reads as it did. -/
def netGreatestUptoRow : OpenClaim := { program := "ytiambddcpflkhaa", sum := "e28671a5781526a4c41c5e8a7d6e0468dbc2b5cd5c348af1bda065a60d43422a", func := "oast/oastlaw06.NetGreatest", spec := "netGreatest", unfollowed := true, recurses := true, named := ["math/bits.divideError", "math/bits.overflowError"], apart := false, narrowed := true }
def NetGreatestUptoSaid : Prop := netGreatestUptoRow.holds Try.pinned (OpenSpec.upto netGreatestSpec)

/-- 'oastlaw06.NetJudges', WHERE WHAT IT READS IS OF BULK AT MOST 1048576: true; the input reads as it did. -/
def netJudgesUptoRow : OpenClaim := { program := "ytiambddcpflkhaa", sum := "e28671a5781526a4c41c5e8a7d6e0468dbc2b5cd5c348af1bda065a60d43422a", func := "oast/oastlaw06.NetJudges", spec := "netJudges", unfollowed := true, recurses := true, named := ["math/bits.divideError", "math/bits.overflowError"], apart := false, narrowed := true }
def NetJudgesUptoSaid : Prop := netJudgesUptoRow.holds Try.pinned (OpenSpec.upto netJudgesSpec)

/-- 'oastlaw06.NetCancels', WHERE WHAT IT READS IS OF BULK AT MOST 1048576: true; the input reads as it did. -/
def netCancelsUptoRow : OpenClaim := { program := "ytiambddcpflkhaa", sum := "e28671a5781526a4c41c5e8a7d6e0468dbc2b5cd5c348af1bda065a60d43422a", func := "oast/oastlaw06.NetCancels", spec := "netCancels", unfollowed := true, recurses := true, named := ["math/bits.divideError", "math/bits.overflowError"], apart := false, narrowed := true }
def NetCancelsUptoSaid : Prop := netCancelsUptoRow.holds Try.pinned (OpenSpec.upto netCancelsSpec)

/-- 'oastlaw06.NetSettles', WHERE WHAT IT READS IS OF BULK AT MOST 1048576: true; the input reads as it did. -/
def netSettlesUptoRow : OpenClaim := { program := "ytiambddcpflkhaa", sum := "e28671a5781526a4c41c5e8a7d6e0468dbc2b5cd5c348af1bda065a60d43422a", func := "oast/oastlaw06.NetSettles", spec := "netSettles", unfollowed := true, recurses := true, named := ["math/bits.divideError", "math/bits.overflowError"], apart := false, narrowed := true }
def NetSettlesUptoSaid : Prop := netSettlesUptoRow.holds Try.pinned (OpenSpec.upto netSettlesSpec)

/-- 'oastlaw06.NetCrises', WHERE WHAT IT READS IS OF BULK AT MOST 1048576: true; the input reads as it did. -/
def netCrisesUptoRow : OpenClaim := { program := "ytiambddcpflkhaa", sum := "e28671a5781526a4c41c5e8a7d6e0468dbc2b5cd5c348af1bda065a60d43422a", func := "oast/oastlaw06.NetCrises", spec := "netCrises", unfollowed := true, recurses := true, named := ["math/bits.divideError", "math/bits.overflowError"], apart := false, narrowed := true }
def NetCrisesUptoSaid : Prop := netCrisesUptoRow.holds Try.pinned (OpenSpec.upto netCrisesSpec)

/-- 'oastlaw06.NetChecks', WHERE WHAT IT READS IS OF BULK AT MOST 1048576: true; the input reads as it did. -/
def netChecksUptoRow : OpenClaim := { program := "ytiambddcpflkhaa", sum := "e28671a5781526a4c41c5e8a7d6e0468dbc2b5cd5c348af1bda065a60d43422a", func := "oast/oastlaw06.NetChecks", spec := "netChecks", unfollowed := true, recurses := true, named := ["math/bits.divideError", "math/bits.overflowError"], apart := false, narrowed := true }
def NetChecksUptoSaid : Prop := netChecksUptoRow.holds Try.pinned (OpenSpec.upto netChecksSpec)

end Rows
end Go.Proofs.Ytiambddcpflkhaa
