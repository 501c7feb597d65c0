import Derived.Test.YteagflekbbchhaaSeT
set_option maxRecDepth 100000
namespace Go.Proofs.Yteagflekbbchhaa
open Go.RowKit Go.Proofs
theorem no {a b : Int} (h : ¬ a = b) {p : Prop} (e : a = b) : p := absurd e h
theorem N3.s {n : Int} (h : n = 1 ∨ n = 2) : N3 n := .inr h
end Go.Proofs.Yteagflekbbchhaa
