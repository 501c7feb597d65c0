/-
  No cell of these rows narrows 'for every input' (looked for: loops, veiled, ifaces, maps, wideKeys, modest, calm, conditions, laid).
  DERIVED. THE GIVEN ROWS OF THIS SEAT. 7 by the template 'for every input the law returns true; each argument reads behind the call as it read before'; 0 by the template 'total and deterministic' (their statements: YtlldeifbfpmbaaaTotals.lean).
  GIVEN WITH THE SEED: the statements are not yours to turn. If you find one false, say at which input.
  Laid BY PROGRAM, IN A SANDBOX (cutbox-rows.mjs): the forced cells as the released guide's own fill.sh prints them over the translation 69ef206e5919cd30… (all of the seat's roots in one cut). By AI agents, Wed Nov 11 2026. No macro, syntax, notation, axiom, sorry.
-/
import Derived.Test.YtlldeifbfpmbaaaChecked
import GoSem.Claim
import GoSem.ClaimJoined
import GoSem.ClaimMapViews
import Derived.JoinedTies
import Derived.KernelRfl
namespace Go.Proofs.Ytlldeifbfpmbaaa
/- THE CELL 'sum', in the pinned program and in every row, IS THE sha256 OF THE DUMP (.gsa) THAT YtlldeifbfpmbaaaProg.lean LOADS. Nothing in Lean hashes anything: it is a label: what it is worth is what the hold of that sum in a sandbox is worth. -/
noncomputable def Try.pinned : Pinned := { name := "ytlldeifbfpmbaaa", sum := "69ef206e5919cd303ae693cadb5f5111a86d083173701d285f5a63e888f4152d", checked := Try.checked }
namespace Rows
def none {H : Type} : Left H := { results := [], args := [] }

/-- 'oastlaw05.PairOffers': WHATEVER THE INPUT: true; the input reads as it did. -/
def pairOffersSpec : ChangeSpec := { name := "pairOffers", fn := fun _ => fun
  | [d] => { results := [.lit (.bool true)], args := [d] }
  | _ => none }
def pairOffersRow : OpenClaim := { program := "ytlldeifbfpmbaaa", sum := "69ef206e5919cd303ae693cadb5f5111a86d083173701d285f5a63e888f4152d", func := "oast/oastlaw05.PairOffers", spec := "pairOffers", unfollowed := true, recurses := true, apart := false }
def PairOffersSaid : Prop := pairOffersRow.holds Try.pinned (OpenSpec.ofChange pairOffersSpec)

/-- ITS FALSE NEIGHBOUR: 'it returns false'. Refute it at one input. -/
def pairOffersWrong : ChangeSpec := { name := "pairOffers", fn := fun _ => fun
  | [d] => { results := [.lit (.bool false)], args := [d] }
  | _ => none }
def PairOffersWrongFalsely : Prop := pairOffersRow.holds Try.pinned (OpenSpec.ofChange pairOffersWrong)

/-- 'oastlaw05.PairTruth': WHATEVER THE INPUT: true; the input reads as it did. -/
def pairTruthSpec : ChangeSpec := { name := "pairTruth", fn := fun _ => fun
  | [d1, d2, d3] => { results := [.lit (.bool true)], args := [d1, d2, d3] }
  | _ => none }
def pairTruthRow : OpenClaim := { program := "ytlldeifbfpmbaaa", sum := "69ef206e5919cd303ae693cadb5f5111a86d083173701d285f5a63e888f4152d", func := "oast/oastlaw05.PairTruth", spec := "pairTruth", unfollowed := true, recurses := true, apart := false }
def PairTruthSaid : Prop := pairTruthRow.holds Try.pinned (OpenSpec.ofChange pairTruthSpec)

/-- ITS FALSE NEIGHBOUR: 'it returns false'. Refute it at one input. -/
def pairTruthWrong : ChangeSpec := { name := "pairTruth", fn := fun _ => fun
  | [d1, d2, d3] => { results := [.lit (.bool false)], args := [d1, d2, d3] }
  | _ => none }
def PairTruthWrongFalsely : Prop := pairTruthRow.holds Try.pinned (OpenSpec.ofChange pairTruthWrong)

/-- 'oastlaw05.PairLattice': WHATEVER THE INPUT: true; the input reads as it did. -/
def pairLatticeSpec : ChangeSpec := { name := "pairLattice", fn := fun _ => fun
  | [d1, d2, d3] => { results := [.lit (.bool true)], args := [d1, d2, d3] }
  | _ => none }
def pairLatticeRow : OpenClaim := { program := "ytlldeifbfpmbaaa", sum := "69ef206e5919cd303ae693cadb5f5111a86d083173701d285f5a63e888f4152d", func := "oast/oastlaw05.PairLattice", spec := "pairLattice", unfollowed := true, recurses := true, apart := false }
def PairLatticeSaid : Prop := pairLatticeRow.holds Try.pinned (OpenSpec.ofChange pairLatticeSpec)

/-- ITS FALSE NEIGHBOUR: 'it returns false'. Refute it at one input. -/
def pairLatticeWrong : ChangeSpec := { name := "pairLattice", fn := fun _ => fun
  | [d1, d2, d3] => { results := [.lit (.bool false)], args := [d1, d2, d3] }
  | _ => none }
def PairLatticeWrongFalsely : Prop := pairLatticeRow.holds Try.pinned (OpenSpec.ofChange pairLatticeWrong)

/-- 'oastlaw05.PairBetter': WHATEVER THE INPUT: true; the input reads as it did. -/
def pairBetterSpec : ChangeSpec := { name := "pairBetter", fn := fun _ => fun
  | [d1, d2] => { results := [.lit (.bool true)], args := [d1, d2] }
  | _ => none }
def pairBetterRow : OpenClaim := { program := "ytlldeifbfpmbaaa", sum := "69ef206e5919cd303ae693cadb5f5111a86d083173701d285f5a63e888f4152d", func := "oast/oastlaw05.PairBetter", spec := "pairBetter", unfollowed := true, recurses := true, apart := false }
def PairBetterSaid : Prop := pairBetterRow.holds Try.pinned (OpenSpec.ofChange pairBetterSpec)

/-- ITS FALSE NEIGHBOUR: 'it returns false'. Refute it at one input. -/
def pairBetterWrong : ChangeSpec := { name := "pairBetter", fn := fun _ => fun
  | [d1, d2] => { results := [.lit (.bool false)], args := [d1, d2] }
  | _ => none }
def PairBetterWrongFalsely : Prop := pairBetterRow.holds Try.pinned (OpenSpec.ofChange pairBetterWrong)

/-- 'oastlaw05.PairSwapTruth': WHATEVER THE INPUT: true; the input reads as it did. -/
def pairSwapTruthSpec : ChangeSpec := { name := "pairSwapTruth", fn := fun _ => fun
  | [d1, d2, d3] => { results := [.lit (.bool true)], args := [d1, d2, d3] }
  | _ => none }
def pairSwapTruthRow : OpenClaim := { program := "ytlldeifbfpmbaaa", sum := "69ef206e5919cd303ae693cadb5f5111a86d083173701d285f5a63e888f4152d", func := "oast/oastlaw05.PairSwapTruth", spec := "pairSwapTruth", unfollowed := true, recurses := true, apart := false }
def PairSwapTruthSaid : Prop := pairSwapTruthRow.holds Try.pinned (OpenSpec.ofChange pairSwapTruthSpec)

/-- ITS FALSE NEIGHBOUR: 'it returns false'. Refute it at one input. -/
def pairSwapTruthWrong : ChangeSpec := { name := "pairSwapTruth", fn := fun _ => fun
  | [d1, d2, d3] => { results := [.lit (.bool false)], args := [d1, d2, d3] }
  | _ => none }
def PairSwapTruthWrongFalsely : Prop := pairSwapTruthRow.holds Try.pinned (OpenSpec.ofChange pairSwapTruthWrong)

/-- 'oastlaw05.PairSwaps': WHATEVER THE INPUT: true; the input reads as it did. -/
def pairSwapsSpec : ChangeSpec := { name := "pairSwaps", fn := fun _ => fun
  | [d] => { results := [.lit (.bool true)], args := [d] }
  | _ => none }
def pairSwapsRow : OpenClaim := { program := "ytlldeifbfpmbaaa", sum := "69ef206e5919cd303ae693cadb5f5111a86d083173701d285f5a63e888f4152d", func := "oast/oastlaw05.PairSwaps", spec := "pairSwaps", unfollowed := true, recurses := true, apart := false }
def PairSwapsSaid : Prop := pairSwapsRow.holds Try.pinned (OpenSpec.ofChange pairSwapsSpec)

/-- ITS FALSE NEIGHBOUR: 'it returns false'. Refute it at one input. -/
def pairSwapsWrong : ChangeSpec := { name := "pairSwaps", fn := fun _ => fun
  | [d] => { results := [.lit (.bool false)], args := [d] }
  | _ => none }
def PairSwapsWrongFalsely : Prop := pairSwapsRow.holds Try.pinned (OpenSpec.ofChange pairSwapsWrong)

/-- 'oastlaw05.PairJudges': WHATEVER THE INPUT: true; the input reads as it did. -/
def pairJudgesSpec : ChangeSpec := { name := "pairJudges", fn := fun _ => fun
  | [d1, d2] => { results := [.lit (.bool true)], args := [d1, d2] }
  | _ => none }
def pairJudgesRow : OpenClaim := { program := "ytlldeifbfpmbaaa", sum := "69ef206e5919cd303ae693cadb5f5111a86d083173701d285f5a63e888f4152d", func := "oast/oastlaw05.PairJudges", spec := "pairJudges", unfollowed := true, recurses := true, apart := false }
def PairJudgesSaid : Prop := pairJudgesRow.holds Try.pinned (OpenSpec.ofChange pairJudgesSpec)

/-- ITS FALSE NEIGHBOUR: 'it returns false'. Refute it at one input. -/
def pairJudgesWrong : ChangeSpec := { name := "pairJudges", fn := fun _ => fun
  | [d1, d2] => { results := [.lit (.bool false)], args := [d1, d2] }
  | _ => none }
def PairJudgesWrongFalsely : Prop := pairJudgesRow.holds Try.pinned (OpenSpec.ofChange pairJudgesWrong)

/- THE SECOND FORM. 'bulk': how many values and letters a reading holds, each counted each time it is reached (what is shared counts as often as it is met; a slice's spare places count too). A statement '..UptoSaid' is the law's where the arguments, and the package variables that the reading takes, are together of bulk at most 1048576: NARROWER than '..Said'. Prove '..Said' where nothing that the law and all that it calls make is longer than what came in: it says more and counts as full. Else prove '..UptoSaid'. A law counts once. -/
mutual
def uptoBulk {H : Type} : DataW H → Nat
  | .lit (.string bytes) => bytes.length + 1
  | .lit _ => 1
  | .nil => 1
  | .ptr d => uptoBulk d + 1
  | .slice elems spare => uptoBulkAll elems + uptoBulkAll spare + 1
  | .agg parts => uptoBulkAll parts + 1
  | .iface _ d => uptoBulk d + 1
  | .map entries => uptoBulkEntries entries + 1
  | .held _ => 1
def uptoBulkAll {H : Type} : List (DataW H) → Nat
  | [] => 0
  | d :: r => uptoBulk d + uptoBulkAll r
def uptoBulkEntries {H : Type} : List (Lit × DataW H) → Nat
  | [] => 0
  | x :: r => uptoBulkEntry x + uptoBulkEntries r
def uptoBulkEntry {H : Type} : Lit × DataW H → Nat
  | (.string bytes, d) => bytes.length + uptoBulk d + 1
  | (_, d) => uptoBulk d + 1
 end
def uptoSmall : (H : Type) → List (DataW H) → Bool := fun _ ds => decide (uptoBulkAll ds ≤ 1048576)
def OpenSpec.upto (s : _root_.Go.ChangeSpec) : _root_.Go.OpenSpec := { _root_.Go.OpenSpec.ofChange s with cond := some uptoSmall }

/-- 'oastlaw05.PairOffers', WHERE WHAT IT READS IS OF BULK AT MOST 1048576: true; the input reads as it did. -/
def pairOffersUptoRow : OpenClaim := { program := "ytlldeifbfpmbaaa", sum := "69ef206e5919cd303ae693cadb5f5111a86d083173701d285f5a63e888f4152d", func := "oast/oastlaw05.PairOffers", spec := "pairOffers", unfollowed := true, recurses := true, apart := false, narrowed := true }
def PairOffersUptoSaid : Prop := pairOffersUptoRow.holds Try.pinned (OpenSpec.upto pairOffersSpec)

/-- 'oastlaw05.PairTruth', WHERE WHAT IT READS IS OF BULK AT MOST 1048576: true; the input reads as it did. -/
def pairTruthUptoRow : OpenClaim := { program := "ytlldeifbfpmbaaa", sum := "69ef206e5919cd303ae693cadb5f5111a86d083173701d285f5a63e888f4152d", func := "oast/oastlaw05.PairTruth", spec := "pairTruth", unfollowed := true, recurses := true, apart := false, narrowed := true }
def PairTruthUptoSaid : Prop := pairTruthUptoRow.holds Try.pinned (OpenSpec.upto pairTruthSpec)

/-- 'oastlaw05.PairLattice', WHERE WHAT IT READS IS OF BULK AT MOST 1048576: true; the input reads as it did. -/
def pairLatticeUptoRow : OpenClaim := { program := "ytlldeifbfpmbaaa", sum := "69ef206e5919cd303ae693cadb5f5111a86d083173701d285f5a63e888f4152d", func := "oast/oastlaw05.PairLattice", spec := "pairLattice", unfollowed := true, recurses := true, apart := false, narrowed := true }
def PairLatticeUptoSaid : Prop := pairLatticeUptoRow.holds Try.pinned (OpenSpec.upto pairLatticeSpec)

/-- 'oastlaw05.PairBetter', WHERE WHAT IT READS IS OF BULK AT MOST 1048576: true; the input reads as it did. -/
def pairBetterUptoRow : OpenClaim := { program := "ytlldeifbfpmbaaa", sum := "69ef206e5919cd303ae693cadb5f5111a86d083173701d285f5a63e888f4152d", func := "oast/oastlaw05.PairBetter", spec := "pairBetter", unfollowed := true, recurses := true, apart := false, narrowed := true }
def PairBetterUptoSaid : Prop := pairBetterUptoRow.holds Try.pinned (OpenSpec.upto pairBetterSpec)

/-- 'oastlaw05.PairSwapTruth', WHERE WHAT IT READS IS OF BULK AT MOST 1048576: true; the input reads as it did. -/
def pairSwapTruthUptoRow : OpenClaim := { program := "ytlldeifbfpmbaaa", sum := "69ef206e5919cd303ae693cadb5f5111a86d083173701d285f5a63e888f4152d", func := "oast/oastlaw05.PairSwapTruth", spec := "pairSwapTruth", unfollowed := true, recurses := true, apart := false, narrowed := true }
def PairSwapTruthUptoSaid : Prop := pairSwapTruthUptoRow.holds Try.pinned (OpenSpec.upto pairSwapTruthSpec)

/-- 'oastlaw05.PairSwaps', WHERE WHAT IT READS IS OF BULK AT MOST 1048576: true; the input reads as it did. -/
def pairSwapsUptoRow : OpenClaim := { program := "ytlldeifbfpmbaaa", sum := "69ef206e5919cd303ae693cadb5f5111a86d083173701d285f5a63e888f4152d", func := "oast/oastlaw05.PairSwaps", spec := "pairSwaps", unfollowed := true, recurses := true, apart := false, narrowed := true }
def PairSwapsUptoSaid : Prop := pairSwapsUptoRow.holds Try.pinned (OpenSpec.upto pairSwapsSpec)

/-- 'oastlaw05.PairJudges', WHERE WHAT IT READS IS OF BULK AT MOST 1048576: true; the input reads as it did. -/
def pairJudgesUptoRow : OpenClaim := { program := "ytlldeifbfpmbaaa", sum := "69ef206e5919cd303ae693cadb5f5111a86d083173701d285f5a63e888f4152d", func := "oast/oastlaw05.PairJudges", spec := "pairJudges", unfollowed := true, recurses := true, apart := false, narrowed := true }
def PairJudgesUptoSaid : Prop := pairJudgesUptoRow.holds Try.pinned (OpenSpec.upto pairJudgesSpec)

end Rows
end Go.Proofs.Ytlldeifbfpmbaaa
