import Derived.Test.YteagflekbbchhaaRowOpen8
set_option maxRecDepth 100000
namespace Go.Proofs.Yteagflekbbchhaa
open Go.Joins Go.ChangeShapes Go.WideShapes Go.ChangeAt Go.RowKit Go.Deep Go.Proofs
theorem open_configL {H : Type} {enc : TypeId × Value → H} {W : World} {v : Value} {d : DataW H} {ps : List MemPlace} {r : Reach} {b0 : Nat} (hval : Value.okWide Try.prog W r b0 24 v) (h : DataW.Trod enc Try.prog W 0 (fun _ => true) true 24 v d ps) :
  ∃ (m p : Int) (a1 : Option Addr) (n1 c1 : Nat) (G1 : Int → Int) (a2 : Option Addr) (n2 c2 : Nat) (G2 : Int → Int), v = .agg #[iv m, iv p, .slice a1 n1 c1, .slice a2 n2 c2] ∧ n1 ≤ c1 ∧ n2 ≤ c2 ∧ IAt W.heap.size W a1 n1 (fun i => .int .i64 (G1 i)) ∧ IAt W.heap.size W a2 n2 (fun i => .int .i64 (G2 i)) := by
 obtain ⟨v0, v1, v2, v3, y0, y1, y2, y3, n, rfl, rfl, rfl, h0, h1, h2, h3⟩ := open_agg4 Try.underlying24 (by kernel_rfl) (by kernel_rfl) hval h
 obtain ⟨m, hm, _⟩ := DataW.trod_int Try.underlying3 h0
 obtain ⟨p, hp, _⟩ := DataW.trod_int Try.underlying3 h1
 obtain ⟨a1, n1, c1, G1, rfl, hl1, hr1⟩ := open_row0 h2
 obtain ⟨a2, n2, c2, G2, rfl, hl2, hr2⟩ := open_row0 h3
 simp only [List.cons.injEq, and_true] at hm hp
 subst hm; subst hp
 exact ⟨m, p, a1, n1, c1, G1, a2, n2, c2, G2, rfl, hl1, hl2, hr1, hr2⟩
end Go.Proofs.Yteagflekbbchhaa
