/-
  No cell of these rows narrows 'for every input' (looked for: loops, veiled, ifaces, maps, wideKeys, modest, calm, conditions, laid).
  DERIVED. THE GIVEN ROWS OF THIS SEAT. 5 by the template 'for every input the law returns true; each argument reads behind the call as it read before'; 0 by the template 'total and deterministic' (their statements: YtlldeifbfpmbaaaGreatTotals.lean).
  GIVEN WITH THE SEED: the statements are not yours to turn. If you find one false, say at which input.
  Laid BY PROGRAM, IN A SANDBOX (cutbox-rows.mjs): the forced cells as the released guide's own fill.sh prints them over the translation 033b1800795f1411… (all of the seat's roots in one cut). By AI agents, Wed Nov 11 2026. No macro, syntax, notation, axiom, sorry.
-/
import Derived.Test.YtlldeifbfpmbaaaGreatChecked
import GoSem.Claim
import GoSem.ClaimJoined
import GoSem.ClaimMapViews
import Derived.JoinedTies
import Derived.KernelRfl
namespace Go.Proofs.YtlldeifbfpmbaaaGreat
/- THE CELL 'sum', in the pinned program and in every row, IS THE sha256 OF THE DUMP (.gsa) THAT YtlldeifbfpmbaaaGreatProg.lean LOADS. Nothing in Lean hashes anything: it is a label: what it is worth is what the hold of that sum in a sandbox is worth. -/
noncomputable def Tryz.pinned : Pinned := { name := "ytlldeifbfpmbaaagreat", sum := "033b1800795f1411b9eab63a1bfa89d2666e777dc2c4fa786603c0aa6ae7376e", checked := Tryz.checked }
namespace Rows
def none {H : Type} : Left H := { results := [], args := [] }

/-- 'oastlaw05.PairAlone': WHATEVER THE INPUT: true; the input reads as it did. -/
def pairAloneSpec : ChangeSpec := { name := "pairAlone", fn := fun _ => fun
  | [d] => { results := [.lit (.bool true)], args := [d] }
  | _ => none }
def pairAloneRow : OpenClaim := { program := "ytlldeifbfpmbaaagreat", sum := "033b1800795f1411b9eab63a1bfa89d2666e777dc2c4fa786603c0aa6ae7376e", func := "oast/oastlaw05.PairAlone", spec := "pairAlone", unfollowed := true, recurses := true, apart := false }
def PairAloneSaid : Prop := pairAloneRow.holds Tryz.pinned (OpenSpec.ofChange pairAloneSpec)

/-- ITS FALSE NEIGHBOUR: 'it returns false'. Refute it at one input. -/
def pairAloneWrong : ChangeSpec := { name := "pairAlone", fn := fun _ => fun
  | [d] => { results := [.lit (.bool false)], args := [d] }
  | _ => none }
def PairAloneWrongFalsely : Prop := pairAloneRow.holds Tryz.pinned (OpenSpec.ofChange pairAloneWrong)

/-- 'oastlaw05.PairEnds': WHATEVER THE INPUT: true; the input reads as it did. -/
def pairEndsSpec : ChangeSpec := { name := "pairEnds", fn := fun _ => fun
  | [d1, d2] => { results := [.lit (.bool true)], args := [d1, d2] }
  | _ => none }
def pairEndsRow : OpenClaim := { program := "ytlldeifbfpmbaaagreat", sum := "033b1800795f1411b9eab63a1bfa89d2666e777dc2c4fa786603c0aa6ae7376e", func := "oast/oastlaw05.PairEnds", spec := "pairEnds", unfollowed := true, recurses := true, apart := false }
def PairEndsSaid : Prop := pairEndsRow.holds Tryz.pinned (OpenSpec.ofChange pairEndsSpec)

/-- ITS FALSE NEIGHBOUR: 'it returns false'. Refute it at one input. -/
def pairEndsWrong : ChangeSpec := { name := "pairEnds", fn := fun _ => fun
  | [d1, d2] => { results := [.lit (.bool false)], args := [d1, d2] }
  | _ => none }
def PairEndsWrongFalsely : Prop := pairEndsRow.holds Tryz.pinned (OpenSpec.ofChange pairEndsWrong)

/-- 'oastlaw05.PairChecks': WHATEVER THE INPUT: true; the input reads as it did. -/
def pairChecksSpec : ChangeSpec := { name := "pairChecks", fn := fun _ => fun
  | [d1, d2] => { results := [.lit (.bool true)], args := [d1, d2] }
  | _ => none }
def pairChecksRow : OpenClaim := { program := "ytlldeifbfpmbaaagreat", sum := "033b1800795f1411b9eab63a1bfa89d2666e777dc2c4fa786603c0aa6ae7376e", func := "oast/oastlaw05.PairChecks", spec := "pairChecks", unfollowed := true, recurses := true, apart := false }
def PairChecksSaid : Prop := pairChecksRow.holds Tryz.pinned (OpenSpec.ofChange pairChecksSpec)

/-- ITS FALSE NEIGHBOUR: 'it returns false'. Refute it at one input. -/
def pairChecksWrong : ChangeSpec := { name := "pairChecks", fn := fun _ => fun
  | [d1, d2] => { results := [.lit (.bool false)], args := [d1, d2] }
  | _ => none }
def PairChecksWrongFalsely : Prop := pairChecksRow.holds Tryz.pinned (OpenSpec.ofChange pairChecksWrong)

/-- 'oasttop.TopRings': WHATEVER THE INPUT: true; the input reads as it did. -/
def topRingsSpec : ChangeSpec := { name := "topRings", fn := fun _ => fun
  | [d1, d2] => { results := [.lit (.bool true)], args := [d1, d2] }
  | _ => none }
def topRingsRow : OpenClaim := { program := "ytlldeifbfpmbaaagreat", sum := "033b1800795f1411b9eab63a1bfa89d2666e777dc2c4fa786603c0aa6ae7376e", func := "oast/oasttop.TopRings", spec := "topRings", unfollowed := true, recurses := true, named := ["math/bits.divideError", "math/bits.overflowError"], apart := false }
def TopRingsSaid : Prop := topRingsRow.holds Tryz.pinned (OpenSpec.ofChange topRingsSpec)

/-- ITS FALSE NEIGHBOUR: 'it returns false'. Refute it at one input. -/
def topRingsWrong : ChangeSpec := { name := "topRings", fn := fun _ => fun
  | [d1, d2] => { results := [.lit (.bool false)], args := [d1, d2] }
  | _ => none }
def TopRingsWrongFalsely : Prop := topRingsRow.holds Tryz.pinned (OpenSpec.ofChange topRingsWrong)

/-- 'oasttop.TopTurns': WHATEVER THE INPUT: true; the input reads as it did. -/
def topTurnsSpec : ChangeSpec := { name := "topTurns", fn := fun _ => fun
  | [d1, d2] => { results := [.lit (.bool true)], args := [d1, d2] }
  | _ => none }
def topTurnsRow : OpenClaim := { program := "ytlldeifbfpmbaaagreat", sum := "033b1800795f1411b9eab63a1bfa89d2666e777dc2c4fa786603c0aa6ae7376e", func := "oast/oasttop.TopTurns", spec := "topTurns", unfollowed := true, recurses := true, apart := false }
def TopTurnsSaid : Prop := topTurnsRow.holds Tryz.pinned (OpenSpec.ofChange topTurnsSpec)

/-- ITS FALSE NEIGHBOUR: 'it returns false'. Refute it at one input. -/
def topTurnsWrong : ChangeSpec := { name := "topTurns", fn := fun _ => fun
  | [d1, d2] => { results := [.lit (.bool false)], args := [d1, d2] }
  | _ => none }
def TopTurnsWrongFalsely : Prop := topTurnsRow.holds Tryz.pinned (OpenSpec.ofChange topTurnsWrong)

/- THE SECOND FORM. 'bulk': how many values and letters a reading holds, each counted each time it is reached (what is shared counts as often as it is met; a slice's spare places count too). A statement '..UptoSaid' is the law's where the arguments, and the package variables that the reading takes, are together of bulk at most 1048576: NARROWER than '..Said'. Prove '..Said' where nothing that the law and all that it calls make is longer than what came in: it says more and counts as full. Else prove '..UptoSaid'. A law counts once. -/
mutual
def uptoBulk {H : Type} : DataW H → Nat
  | .lit (.string bytes) => bytes.length + 1
  | .lit _ => 1
  | .nil => 1
  | .ptr d => uptoBulk d + 1
  | .slice elems spare => uptoBulkAll elems + uptoBulkAll spare + 1
  | .agg parts => uptoBulkAll parts + 1
  | .iface _ d => uptoBulk d + 1
  | .map entries => uptoBulkEntries entries + 1
  | .held _ => 1
def uptoBulkAll {H : Type} : List (DataW H) → Nat
  | [] => 0
  | d :: r => uptoBulk d + uptoBulkAll r
def uptoBulkEntries {H : Type} : List (Lit × DataW H) → Nat
  | [] => 0
  | x :: r => uptoBulkEntry x + uptoBulkEntries r
def uptoBulkEntry {H : Type} : Lit × DataW H → Nat
  | (.string bytes, d) => bytes.length + uptoBulk d + 1
  | (_, d) => uptoBulk d + 1
 end
def uptoSmall : (H : Type) → List (DataW H) → Bool := fun _ ds => decide (uptoBulkAll ds ≤ 1048576)
def OpenSpec.upto (s : _root_.Go.ChangeSpec) : _root_.Go.OpenSpec := { _root_.Go.OpenSpec.ofChange s with cond := some uptoSmall }

/-- 'oastlaw05.PairAlone', WHERE WHAT IT READS IS OF BULK AT MOST 1048576: true; the input reads as it did. -/
def pairAloneUptoRow : OpenClaim := { program := "ytlldeifbfpmbaaagreat", sum := "033b1800795f1411b9eab63a1bfa89d2666e777dc2c4fa786603c0aa6ae7376e", func := "oast/oastlaw05.PairAlone", spec := "pairAlone", unfollowed := true, recurses := true, apart := false, narrowed := true }
def PairAloneUptoSaid : Prop := pairAloneUptoRow.holds Tryz.pinned (OpenSpec.upto pairAloneSpec)

/-- 'oastlaw05.PairEnds', WHERE WHAT IT READS IS OF BULK AT MOST 1048576: true; the input reads as it did. -/
def pairEndsUptoRow : OpenClaim := { program := "ytlldeifbfpmbaaagreat", sum := "033b1800795f1411b9eab63a1bfa89d2666e777dc2c4fa786603c0aa6ae7376e", func := "oast/oastlaw05.PairEnds", spec := "pairEnds", unfollowed := true, recurses := true, apart := false, narrowed := true }
def PairEndsUptoSaid : Prop := pairEndsUptoRow.holds Tryz.pinned (OpenSpec.upto pairEndsSpec)

/-- 'oastlaw05.PairChecks', WHERE WHAT IT READS IS OF BULK AT MOST 1048576: true; the input reads as it did. -/
def pairChecksUptoRow : OpenClaim := { program := "ytlldeifbfpmbaaagreat", sum := "033b1800795f1411b9eab63a1bfa89d2666e777dc2c4fa786603c0aa6ae7376e", func := "oast/oastlaw05.PairChecks", spec := "pairChecks", unfollowed := true, recurses := true, apart := false, narrowed := true }
def PairChecksUptoSaid : Prop := pairChecksUptoRow.holds Tryz.pinned (OpenSpec.upto pairChecksSpec)

/-- 'oasttop.TopRings', WHERE WHAT IT READS IS OF BULK AT MOST 1048576: true; the input reads as it did. -/
def topRingsUptoRow : OpenClaim := { program := "ytlldeifbfpmbaaagreat", sum := "033b1800795f1411b9eab63a1bfa89d2666e777dc2c4fa786603c0aa6ae7376e", func := "oast/oasttop.TopRings", spec := "topRings", unfollowed := true, recurses := true, named := ["math/bits.divideError", "math/bits.overflowError"], apart := false, narrowed := true }
def TopRingsUptoSaid : Prop := topRingsUptoRow.holds Tryz.pinned (OpenSpec.upto topRingsSpec)

/-- 'oasttop.TopTurns', WHERE WHAT IT READS IS OF BULK AT MOST 1048576: true; the input reads as it did. -/
def topTurnsUptoRow : OpenClaim := { program := "ytlldeifbfpmbaaagreat", sum := "033b1800795f1411b9eab63a1bfa89d2666e777dc2c4fa786603c0aa6ae7376e", func := "oast/oasttop.TopTurns", spec := "topTurns", unfollowed := true, recurses := true, apart := false, narrowed := true }
def TopTurnsUptoSaid : Prop := topTurnsUptoRow.holds Tryz.pinned (OpenSpec.upto topTurnsSpec)

end Rows
end Go.Proofs.YtlldeifbfpmbaaaGreat
