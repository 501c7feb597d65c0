import Derived.Test.YteagflekbbchhaaRowOpenA
import Derived.Test.YteagflekbbchhaaSfO
import Derived.Deep.Slices
set_option maxRecDepth 100000
namespace Go.Proofs.Yteagflekbbchhaa
open Go.Joins Go.ChangeShapes Go.WideShapes Go.ChangeAt Go.RowKit Go.Deep Go.Proofs
theorem open_config {H : Type} {enc : TypeId × Value → H} {W : World} {v : Value} {d : DataW H} {ps : List MemPlace} {r : Reach} {b0 : Nat} (hval : Value.okWide Try.prog W r b0 24 v) (h : DataW.Trod enc Try.prog W 0 (fun _ => true) true 24 v d ps) :
  ∃ (m p : Int) (a1 : Option Addr) (n1 c1 : Nat) (G1 : Int → Int) (a2 : Option Addr) (n2 c2 : Nat) (G2 : Int → Int), v = .agg #[iv m, iv p, .slice a1 n1 c1, .slice a2 n2 c2] ∧ IAt W.heap.size W a1 n1 (fun i => .int .i64 (G1 i)) ∧ IAt W.heap.size W a2 n2 (fun i => .int .i64 (G2 i)) := by
 obtain ⟨v0, v1, v2, v3, y0, y1, y2, y3, n, rfl, rfl, rfl, h0, h1, h2, h3⟩ := open_agg4 Try.underlying24 (by kernel_rfl) (by kernel_rfl) hval h
 obtain ⟨m, hm, _⟩ := DataW.trod_int Try.underlying3 h0
 obtain ⟨p, hp, _⟩ := DataW.trod_int Try.underlying3 h1
 obtain ⟨a1, n1, c1, G1, rfl, _, hr1⟩ := open_row0 h2
 obtain ⟨a2, n2, c2, G2, rfl, _, hr2⟩ := open_row0 h3
 simp only [List.cons.injEq, and_true] at hm hp
 subst hm; subst hp
 exact ⟨m, p, a1, n1, c1, G1, a2, n2, c2, G2, rfl, hr1, hr2⟩
theorem open_deal {H : Type} {enc : TypeId × Value → H} {W : World} {sp : Nat → Bool} {hd : Bool} {n : Nat} {v0 v1 v2 v3 : Value} {y : DataW H × List MemPlace} (h : DataW.trod enc Try.prog W 0 sp hd n 34 [v0, v1, v2, v3] = some y) : ∃ d : Dl, [v0, v1, v2, v3] = dll d := by
 obtain ⟨xs, k, _, _, _, hxl, hf⟩ := DataW.trod_struct Try.underlying34 h
 match xs, hxl with
 | [x0, x1, x2, x3], _ =>
  have g0 := hf 0 _ rfl
  have g1 := hf 1 _ rfl
  have g2 := hf 2 _ rfl
  have g3 := hf 3 _ rfl
  obtain ⟨z0, e0, _⟩ := DataW.trod_int Try.underlying3 g0
  obtain ⟨z1, e1, _⟩ := DataW.trod_int Try.underlying3 g1
  obtain ⟨z2, e2, _⟩ := DataW.trod_int Try.underlying2 g2
  obtain ⟨z3, e3, _⟩ := DataW.trod_int Try.underlying2 g3
  refine ⟨⟨z0, z1, z2, z3⟩, ?_⟩
  injection (show [v0] = [iv z0] from e0) with e0 _
  injection (show [v1] = [iv z1] from e1) with e1 _
  injection (show [v2] = [iv z2] from e2) with e2 _
  injection (show [v3] = [iv z3] from e3) with e3 _
  rw [e0, e1, e2, e3]
  rfl
theorem sat_of {W : World} (a : Addr) (s n : Nat) (G : Int → List Value) (hs : 0 < s) (h : ∀ i, i < n → ∀ j, j < s → W.cell? (a.add (i * s + j)) = some ((G (i : Int)).getD j undef)) : SAt W.heap.size W (some a) s n G := by
 by_cases hn : n = 0
 ·subst hn
  have := RAt.nil W.heap.size W (some a) (fun j => (G ((j / s : Nat) : Int)).getD (j % s) undef)
  rw [← Nat.zero_mul s] at this
  exact this
 ·obtain ⟨b, o, sp⟩ := a
  have hsp : sp = none := by simpa [Addr.add] using World.cell?_spot (h 0 (by omega) 0 hs)
  subst hsp
  refine ⟨b, o, fun _ => rfl, fun _ => ?_, fun j hj => ?_⟩
  ·have := h 0 (by omega) 0 hs
   rw [Addr.add_mid] at this
   exact cell_lt this
  ·have h1 : j / s < n := Nat.div_lt_of_lt_mul (by rw [Nat.mul_comm]; exact hj)
   have := h (j / s) h1 (j % s) (Nat.mod_lt _ hs)
   rw [Addr.add_mid] at this
   have hdm := Nat.div_add_mod j s
   rw [Nat.mul_comm] at hdm
   rw [hdm] at this
   exact this
instance : Inhabited Dl := ⟨Dl.z⟩
theorem open_acts {H : Type} {enc : TypeId × Value → H} {W : World} {v : Value} {d : DataW H} {ps : List MemPlace} (h : DataW.Trod enc Try.prog W 0 (fun _ => true) true 46 v d ps) (hs : ∃ a l c, v = .slice a l c) :
  ∃ (ao : Option Addr) (n c : Nat) (S : Acts), v = .slice ao n c ∧ SAt W.heap.size W ao 7 n S.l ∧ ∀ i, S.kept i ≤ 9223372036854775807 := by
 obtain ⟨fuel, hf⟩ := h
 obtain ⟨sa, sl, sc, rfl⟩ := hs
 rcases open_slice Try.underlying46 hf with ⟨hcs, _⟩ | ⟨a, len, cap, m, n, D, Pl, hcs, _, hl, _, hm, _, hx⟩
 ·have hv : Value.slice sa sl sc = .slice none 0 0 := by simpa [Value.cells] using hcs
  rw [hv]
  have := RAt.nil W.heap.size W none (fun j => ((⟨fun _ => 0, fun _ => Dl.z, fun _ => 0, fun _ => 0⟩ : Acts).l ((j / 7 : Nat) : Int)).getD (j % 7) undef)
  exact ⟨none, 0, 0, ⟨fun _ => 0, fun _ => Dl.z, fun _ => 0, fun _ => 0⟩, rfl, this, fun _ => by show (0 : Int) ≤ _; decide⟩
 ·have hv : Value.slice sa sl sc = .slice (some a) len cap := by simpa [Value.cells] using hcs
  rw [hv]
  have hlm : len ≤ m := by rw [hm]; simp; omega
  have each : ∀ i, i < len → ∃ q : Int × Dl × Int × Int, (∀ j, j < 7 → W.cell? (a.add (i * 7 + j)) = some ((actl q.1 q.2.1 q.2.2.1 q.2.2.2).getD j undef)) ∧ q.2.2.2 ≤ 9223372036854775807 := by
   intro i hi
   obtain ⟨cs', h1, h2⟩ := hx i (by omega)
   have ce : Try.prog.cellsOf 51 = 7 := by kernel_rfl
   have cd : Try.prog.cellsOf 34 = 4 := by kernel_rfl
   have ci : Try.prog.cellsOf 3 = 1 := by kernel_rfl
   rw [ce] at h1
   obtain ⟨_, hlen, hcell⟩ := World.cells?_some h1
   obtain ⟨xs, k, _, _, _, hxl, hf⟩ := DataW.trod_struct Try.underlying51 h2
   match xs, hxl, cs', hlen with
   | [x0, x1, x2, x3], _, [v0, v1, v2, v3, v4, v5, v6], _ =>
    have g0 := hf 0 _ rfl
    have g1 := hf 1 _ rfl
    have g2 := hf 2 _ rfl
    have g3 := hf 3 _ rfl
    simp [cd, ci] at g0 g1 g2 g3
    obtain ⟨z0, e0, _⟩ := DataW.trod_int Try.underlying3 g0
    obtain ⟨dd, e1⟩ := open_deal g1
    obtain ⟨z2, e2, _⟩ := DataW.trod_int Try.underlying3 g2
    obtain ⟨z3, e3, _, hw⟩ := DataW.trod_int Try.underlying3 g3
    refine ⟨(z0, dd, z2, z3), fun j hj => ?_, ?_⟩
    ·have hc := hcell j hj
     rw [add_add] at hc
     rw [hc]
     have e : [v0, v1, v2, v3, v4, v5, v6] = actl z0 dd z2 z3 := by
      show v0 :: ([v1, v2, v3, v4] ++ [v5, v6]) = iv z0 :: (dll dd ++ [iv z2, iv z3])
      rw [e1]
      simp only [List.cons.injEq, and_true] at e0 e2 e3
      rw [e0, e2, e3]
     rw [e]
     have : j < (actl z0 dd z2 z3).length := hj
     rw [List.getD_eq_getElem?_getD, List.getElem?_eq_getElem this]
     rfl
    ·simp [Lit.wf] at hw
     exact hw.2
  obtain ⟨q, hq⟩ := choose_lt each
  refine ⟨some a, len, cap, ⟨fun i => (q i.toNat).1, fun i => (q i.toNat).2.1, fun i => (q i.toNat).2.2.1, fun i => if (q i.toNat).2.2.2 ≤ 9223372036854775807 then (q i.toNat).2.2.2 else 0⟩, rfl, sat_of a 7 len _ (by decide) fun i hi j hj => ?_, fun i => ?_⟩
  ·have := (hq i hi).1 j hj
   rw [this]
   unfold Acts.l
   dsimp only
   rw [Int.toNat_natCast, if_pos (hq i hi).2]
  ·dsimp only
   split
   ·assumption
   ·decide
end Go.Proofs.Yteagflekbbchhaa
