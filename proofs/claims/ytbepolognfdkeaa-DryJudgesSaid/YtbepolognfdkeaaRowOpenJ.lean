import Derived.Test.YtbepolognfdkeaaEff
import Derived.Test.YtbepolognfdkeaaTab
import Derived.Test.YtbepolognfdkeaaChecked
import Derived.Test.YtbepolognfdkeaaRows
import Derived.ProofKit
import Derived.SizedLaws
import Derived.Deep.Modes
import Derived.Deep.Frames
import Derived.Deep.Matrix
import Derived.Carry
import Derived.Lib.SmallJoins
import Derived.Test.YtbepolognfdkeaaGbX
import Derived.Deep.Slices
import Derived.Test.YtbepolognfdkeaaGcO
set_option maxRecDepth 100000
namespace Go.Proofs.Ytbepolognfdkeaa
open Go.Joins Go.ChangeShapes Go.WideShapes Go.ChangeAt Go.RowKit Go.Deep Go.Proofs
theorem Try.own : ownKnob Try.prog.godebug = none := by kernel_rfl
theorem Try.laidOut : laidOutB Try.prog = true := by kernel_rfl
theorem cell_lt {w : World} {b off : Nat} {v : Value} (h : w.cell? ⟨b, off, none⟩ = some v) : b < w.heap.size := by
 by_cases hb : b < w.heap.size
 ·exact hb
 ·have : w.heap[b]? = none := by simp; omega
  simp [World.cell?, this] at h
theorem iat_of {W : World} (a : Addr) (n : Nat) (f : Nat → Value) (h : ∀ i, i < n → W.cell? (a.add i) = some (f i)) : IAt W.heap.size W (some a) n (fun i => f i.toNat) := by
 by_cases hn : n = 0
 ·subst hn; exact IAt.nil _ _ _ _
 ·obtain ⟨b, o, s⟩ := a
  have hs : s = none := by simpa [Addr.add] using World.cell?_spot (h 0 (by omega))
  subst hs
  refine ⟨b, o, fun _ => rfl, fun _ => ?_, fun i hi => ?_⟩
  ·have := h 0 (by omega)
   rw [Addr.add_mid] at this
   exact cell_lt this
  ·have := h i hi
   rw [Addr.add_mid] at this
   exact this
end Go.Proofs.Ytbepolognfdkeaa
set_option maxRecDepth 100000
namespace Go.Proofs.Ytbepolognfdkeaa
open Go.Joins Go.ChangeShapes Go.WideShapes Go.ChangeAt Go.RowKit Go.Deep Go.Proofs
theorem sat_of7 {W : World} (a : Addr) (s n : Nat) (G : Int → List Value) (hs : 0 < s) (h : ∀ i, i < n → ∀ j, j < s → W.cell? (a.add (i * s + j)) = some ((G (i : Int)).getD j undef)) : SAt W.heap.size W (some a) s n G := by
 by_cases hn : n = 0
 ·subst hn
  have := RAt.nil W.heap.size W (some a) (fun j => (G ((j / s : Nat) : Int)).getD (j % s) undef)
  rw [← Nat.zero_mul s] at this
  exact this
 ·obtain ⟨b, o, sp⟩ := a
  have hsp : sp = none := by simpa [Addr.add] using World.cell?_spot (h 0 (by omega) 0 hs)
  subst hsp
  refine ⟨b, o, fun _ => rfl, fun _ => ?_, fun j hj => ?_⟩
  ·have := h 0 (by omega) 0 hs
   rw [Addr.add_mid] at this
   exact cell_lt this
  ·have h1 : j / s < n := Nat.div_lt_of_lt_mul (by rw [Nat.mul_comm]; exact hj)
   have := h (j / s) h1 (j % s) (Nat.mod_lt _ hs)
   rw [Addr.add_mid] at this
   have hdm := Nat.div_add_mod j s
   rw [Nat.mul_comm] at hdm
   rw [hdm] at this
   exact this
def I64 (x : Int) : Prop := -9223372036854775808 ≤ x ∧ x ≤ 9223372036854775807
theorem open_load4 {H : Type} {enc : TypeId × Value → H} {W : World} {sp : Nat → Bool} {hd : Bool} {n : Nat} {v0 v1 v2 v3 : Value} {y : DataW H × List MemPlace} (h : DataW.trod enc Try.prog W 0 sp hd n 72 [v0, v1, v2, v3] = some y) : ∃ d : Int × Int × Int × Int, [v0, v1, v2, v3] = [iv d.1, iv d.2.1, iv d.2.2.1, iv d.2.2.2] ∧ I64 d.1 ∧ I64 d.2.1 ∧ I64 d.2.2.1 ∧ I64 d.2.2.2 := by
 obtain ⟨xs, k, _, _, _, hxl, hf⟩ := DataW.trod_struct Try.underlying72 h
 match xs, hxl with
 | [x0, x1, x2, x3], _ =>
  have g0 := hf 0 _ rfl
  have g1 := hf 1 _ rfl
  have g2 := hf 2 _ rfl
  have g3 := hf 3 _ rfl
  obtain ⟨z0, e0, _, w0⟩ := DataW.trod_int Try.underlying3 g0
  obtain ⟨z1, e1, _, w1⟩ := DataW.trod_int Try.underlying3 g1
  obtain ⟨z2, e2, _, w2⟩ := DataW.trod_int Try.underlying3 g2
  obtain ⟨z3, e3, _, w3⟩ := DataW.trod_int Try.underlying3 g3
  simp [Lit.wf] at w0 w1 w2 w3
  refine ⟨⟨z0, z1, z2, z3⟩, ?_, w0, w1, w2, w3⟩
  injection (show [v0] = [iv z0] from e0) with e0 _
  injection (show [v1] = [iv z1] from e1) with e1 _
  injection (show [v2] = [iv z2] from e2) with e2 _
  injection (show [v3] = [iv z3] from e3) with e3 _
  rw [e0, e1, e2, e3]
instance : Inhabited (Int × Int × Int × Int) := ⟨(0, 0, 0, 0)⟩
theorem open_loads {H : Type} {enc : TypeId × Value → H} {W : World} {v : Value} {d : DataW H} {ps : List MemPlace} (h : DataW.Trod enc Try.prog W 0 (fun _ => true) true 22 v d ps) (hs : ∃ a l c, v = .slice a l c) :
  ∃ (ao : Option Addr) (c : Nat) (l : Lds), v = .slice ao l.n c ∧ l.n ≤ c ∧ l.I64 ∧ SAt W.heap.size W ao 4 l.n (ldF l) := by
 obtain ⟨fuel, hf⟩ := h
 obtain ⟨sa, sl, sc, rfl⟩ := hs
 rcases open_slice Try.underlying22 hf with ⟨hcs, _⟩ | ⟨a, len, cap, m, n, D, Pl, hcs, _, hl, _, hm, _, hx⟩
 ·have hv : Value.slice sa sl sc = .slice none 0 0 := by simpa [Value.cells] using hcs
  rw [hv]
  exact ⟨none, 0, ⟨0, fun _ => 0, fun _ => 0, fun _ => 0, fun _ => 0⟩, rfl, Nat.le_refl _, ⟨fun i a b => by have : i < ((0 : Nat) : Int) := b; omega, fun i a b => by have : i < ((0 : Nat) : Int) := b; omega, fun i a b => by have : i < ((0 : Nat) : Int) := b; omega, fun i a b => by have : i < ((0 : Nat) : Int) := b; omega⟩, SAt.nil _ _ _ _ _⟩
 ·have hv : Value.slice sa sl sc = .slice (some a) len cap := by simpa [Value.cells] using hcs
  rw [hv]
  have hlm : len ≤ m := by rw [hm]; simp; omega
  have each : ∀ i, i < len → ∃ q : Int × Int × Int × Int, (∀ j, j < 4 → W.cell? (a.add (i * 4 + j)) = some ([iv q.1, iv q.2.1, iv q.2.2.1, iv q.2.2.2].getD j undef)) ∧ I64 q.1 ∧ I64 q.2.1 ∧ I64 q.2.2.1 ∧ I64 q.2.2.2 := by
   intro i hi
   obtain ⟨cs', h1, h2⟩ := hx i (by omega)
   have cd : Try.prog.cellsOf 72 = 4 := by kernel_rfl
   rw [cd] at h1
   obtain ⟨_, hlen, hcell⟩ := World.cells?_some h1
   match cs', hlen with
   | [v0, v1, v2, v3], _ =>
    obtain ⟨dd, e1, hw⟩ := open_load4 h2
    refine ⟨dd, fun j hj => ?_, hw⟩
    have hc := hcell j hj
    rw [add_add] at hc
    rw [hc, e1]
    have : j < [iv dd.1, iv dd.2.1, iv dd.2.2.1, iv dd.2.2.2].length := hj
    rw [List.getD_eq_getElem?_getD, List.getElem?_eq_getElem this]
    rfl
  obtain ⟨q, hq⟩ := choose_lt each
  refine ⟨some a, cap, ⟨len, fun i => (q i.toNat).1, fun i => (q i.toNat).2.1, fun i => (q i.toNat).2.2.1, fun i => (q i.toNat).2.2.2⟩, rfl, hl, ⟨fun i i0 i1 => (hq i.toNat (by have : i < (len : Int) := i1; omega)).2.1, fun i i0 i1 => (hq i.toNat (by have : i < (len : Int) := i1; omega)).2.2.1, fun i i0 i1 => (hq i.toNat (by have : i < (len : Int) := i1; omega)).2.2.2.1, fun i i0 i1 => (hq i.toNat (by have : i < (len : Int) := i1; omega)).2.2.2.2⟩, sat_of7 a 4 len _ (by decide) fun i hi j hj => ?_⟩
  exact (hq i hi).1 j hj
theorem open_row70 {H : Type} {enc : TypeId × Value → H} {W : World} {v : Value} {y : DataW H × List MemPlace} {fuel : Nat} (hf : DataW.trod enc Try.prog W 0 (fun _ => true) true fuel 47 [v] = some y) :
  ∃ (ao : Option Addr) (n c : Nat) (g : Int → Int), v = .slice ao n c ∧ n ≤ c ∧ IAt W.heap.size W ao n (fun i => .int .i64 (g i)) := by
 rcases open_ints Try.underlying47 Try.underlying3 (by kernel_rfl) hf with ⟨hcs, hx⟩ | ⟨a, len, cap, zs, hcs, _, hl, hm, hz, hx, hc, _⟩
 ·have hv : v = .slice none 0 0 := by
   simpa using hcs
  exact ⟨none, 0, 0, fun _ => 0, hv, Nat.le_refl _, IAt.nil _ _ _ _⟩
 ·have hv : v = .slice (some a) len cap := by
   simpa using hcs
  simp only [if_true] at hz
  exact ⟨some a, len, cap, fun i => zs.getD i.toNat 0, hv, hl, iat_of a len (fun i => .int .i64 (zs.getD i 0)) (fun i hi => hc i (by omega))⟩
end Go.Proofs.Ytbepolognfdkeaa
set_option maxRecDepth 100000
namespace Go.Proofs.Ytbepolognfdkeaa
open Go.Joins Go.ChangeShapes Go.WideShapes Go.ChangeAt Go.RowKit Go.Deep Go.Proofs
theorem open_turn3 {H : Type} {enc : TypeId × Value → H} {W : World} {sp : Nat → Bool} {hd : Bool} {n : Nat} {v0 v1 v2 : Value} {y : DataW H × List MemPlace} (h : DataW.trod enc Try.prog W 0 sp hd n 54 [v0, v1, v2] = some y) : ∃ d : Trn, [v0, v1, v2] = trV d := by
 obtain ⟨xs, k, _, _, _, hxl, hf⟩ := DataW.trod_struct Try.underlying54 h
 match xs, hxl with
 | [x0, x1, x2], _ =>
  have g0 := hf 0 _ rfl
  have g1 := hf 1 _ rfl
  have g2 := hf 2 _ rfl
  obtain ⟨z0, e0, _, w0⟩ := DataW.trod_int Try.underlying3 g0
  obtain ⟨z1, e1, _, w1⟩ := DataW.trod_int Try.underlying3 g1
  obtain ⟨z2, e2, _, w2⟩ := DataW.trod_int Try.underlying3 g2
  refine ⟨(z0, z1, z2), ?_⟩
  injection (show [v0] = [iv z0] from e0) with e0 _
  injection (show [v1] = [iv z1] from e1) with e1 _
  injection (show [v2] = [iv z2] from e2) with e2 _
  rw [e0, e1, e2]; rfl
theorem open_turns {H : Type} {enc : TypeId × Value → H} {W : World} {v : Value} {d : DataW H} {ps : List MemPlace} (h : DataW.Trod enc Try.prog W 0 (fun _ => true) true 46 v d ps) (hs : ∃ a l c, v = .slice a l c) :
  ∃ (ao : Option Addr) (c : Nat) (T : List Trn), v = .slice ao T.length c ∧ SAt W.heap.size W ao 3 T.length (trF T) := by
 obtain ⟨fuel, hf⟩ := h
 obtain ⟨sa, sl, sc, rfl⟩ := hs
 rcases open_slice Try.underlying46 hf with ⟨hcs, _⟩ | ⟨a, len, cap, m, n, D, Pl, hcs, _, hl, _, hm, _, hx⟩
 ·have hv : Value.slice sa sl sc = .slice none 0 0 := by simpa [Value.cells] using hcs
  rw [hv]
  exact ⟨none, 0, [], rfl, SAt.nil _ _ _ _ _⟩
 ·have hv : Value.slice sa sl sc = .slice (some a) len cap := by simpa [Value.cells] using hcs
  rw [hv]
  have hlm : len ≤ m := by rw [hm]; simp; omega
  have each : ∀ i, i < len → ∃ q : Trn, ∀ j, j < 3 → W.cell? (a.add (i * 3 + j)) = some ((trV q).getD j undef) := by
   intro i hi
   obtain ⟨cs', h1, h2⟩ := hx i (by omega)
   have cd : Try.prog.cellsOf 54 = 3 := by kernel_rfl
   rw [cd] at h1
   obtain ⟨_, hlen, hcell⟩ := World.cells?_some h1
   match cs', hlen with
   | [v0, v1, v2], _ =>
    obtain ⟨dd, e1⟩ := open_turn3 h2
    refine ⟨dd, fun j hj => ?_⟩
    have hc := hcell j hj
    rw [add_add] at hc
    rw [hc, e1]
    have : j < (trV dd).length := hj
    rw [List.getD_eq_getElem?_getD, List.getElem?_eq_getElem this]
    rfl
  obtain ⟨q, hq⟩ := choose_lt each
  have hlen : ((List.range len).map q).length = len := by simp
  refine ⟨some a, cap, (List.range len).map q, by rw [hlen], ?_⟩
  rw [hlen]
  refine sat_of7 a 3 len _ (by decide) fun i hi j hj => ?_
  rw [hq i hi j hj]
  unfold trF
  rw [Int.toNat_natCast, List.getD_eq_getElem?_getD (l := (List.range len).map q), List.getElem?_map, List.getElem?_range hi]
  rfl
theorem trod_array27 {H : Type} {enc : TypeId × Value → H} {P : Program} {w : World} {base : Nat} {spare : Nat → Bool} {held : Bool} {t e : TypeId} {fuel : Nat} {c0 c1 : Value} {x : DataW H × List MemPlace} (ht : P.underlying t = some (.array 2 e)) (hce : P.cellsOf e = 1)
  (h : DataW.trod enc P w base spare held fuel t [c0, c1] = some x) :
  ∃ y0 y1 n, x = (.agg [y0.1, y1.1], y0.2 ++ y1.2) ∧ DataW.trod enc P w base spare held n e [c0] = some y0 ∧ DataW.trod enc P w base spare held n e [c1] = some y1 := by
 cases fuel with
 | zero => simp [DataW.trod] at h
 | succ n =>
  unfold DataW.trod at h
  rw [ht] at h
  have r2 : List.range 2 = [0, 1] := rfl
  simp [r2, hce] at h
  obtain ⟨_, h⟩ := h
  cases h0 : DataW.trod enc P w base spare held n e [c0] with
  | none => simp [h0] at h
  | some y0 =>
   cases h1 : DataW.trod enc P w base spare held n e [c1] with
   | none => simp [h0, h1] at h
   | some y1 =>
    simp [h0, h1] at h
    exact ⟨y0, y1, n, h.symm, h0, h1⟩
theorem open_pair7 {H : Type} {enc : TypeId × Value → H} {W : World} {sp : Nat → Bool} {hd : Bool} {n : Nat} {v0 v1 : Value} {y : DataW H × List MemPlace} (h : DataW.trod enc Try.prog W 0 sp hd n 89 [v0, v1] = some y) : ∃ d : Int × Int, [v0, v1] = spV d := by
 obtain ⟨y0, y1, m, _, g0, g1⟩ := trod_array27 Try.underlying89 (by kernel_rfl) h
 obtain ⟨z0, e0, _, w0⟩ := DataW.trod_int Try.underlying3 g0
 obtain ⟨z1, e1, _, w1⟩ := DataW.trod_int Try.underlying3 g1
 refine ⟨(z0, z1), ?_⟩
 injection (show [v0] = [iv z0] from e0) with e0 _
 injection (show [v1] = [iv z1] from e1) with e1 _
 rw [e0, e1]; rfl
theorem open_hours70 {H : Type} {enc : TypeId × Value → H} {W : World} {v : Value} {y : DataW H × List MemPlace} {fuel : Nat} (hf : DataW.trod enc Try.prog W 0 (fun _ => true) true fuel 48 [v] = some y) :
  ∃ (ao : Option Addr) (n c : Nat) (A B : Int → Int), v = .slice ao n c ∧ n ≤ c ∧ SAt W.heap.size W ao 2 n (hrF A B) := by
 rcases open_slice Try.underlying48 hf with ⟨hcs, _⟩ | ⟨a, len, cap, m, n, D, Pl, hcs, _, hl, _, hm, _, hx⟩
 ·have hv : v = .slice none 0 0 := by simpa using hcs
  exact ⟨none, 0, 0, fun _ => 0, fun _ => 0, hv, Nat.le_refl _, SAt.nil _ _ _ _ _⟩
 ·have hv : v = .slice (some a) len cap := by simpa using hcs
  have hlm : len ≤ m := by rw [hm]; simp; omega
  have each : ∀ i, i < len → ∃ q : Int × Int, ∀ j, j < 2 → W.cell? (a.add (i * 2 + j)) = some ((spV q).getD j undef) := by
   intro i hi
   obtain ⟨cs', h1, h2⟩ := hx i (by omega)
   have cd : Try.prog.cellsOf 89 = 2 := by kernel_rfl
   rw [cd] at h1
   obtain ⟨_, hlen, hcell⟩ := World.cells?_some h1
   match cs', hlen with
   | [v0, v1], _ =>
    obtain ⟨dd, e1⟩ := open_pair7 h2
    refine ⟨dd, fun j hj => ?_⟩
    have hc := hcell j hj
    rw [add_add] at hc
    rw [hc, e1]
    have : j < (spV dd).length := hj
    rw [List.getD_eq_getElem?_getD, List.getElem?_eq_getElem this]
    rfl
  obtain ⟨q, hq⟩ := choose_lt each
  exact ⟨some a, len, cap, fun i => (q i.toNat).1, fun i => (q i.toNat).2, hv, hl, sat_of7 a 2 len _ (by decide) fun i hi j hj => hq i hi j hj⟩
theorem list27 {l : List Value} (h : l.length = 2) : ∃ a b, l = [a, b] := by
 match l, h with
 | [a, b], _ => exact ⟨a, b, rfl⟩
theorem open_crush {H : Type} {enc : TypeId × Value → H} {W : World} {v : Value} {d : DataW H} {ps : List MemPlace} {r : Reach} {b0 : Nat} (hval : Value.okWide Try.prog W r b0 50 v) (h : DataW.Trod enc Try.prog W 0 (fun _ => true) true 50 v d ps) :
  ∃ (xa ha : Option Addr) (xn xc hn hc : Nat) (Y A B : Int → Int), v = .agg (crL xa xn xc ha hn hc).toArray ∧ xn ≤ xc ∧ hn ≤ hc ∧ IAt W.heap.size W xa xn (fun j => iv (Y j)) ∧ SAt W.heap.size W ha 2 hn (hrF A B) := by
 obtain ⟨cs, rfl, hsz⟩ := okWide_struct Try.underlying50 hval
 have hc2 : Try.prog.cellsOf 50 = 2 := by kernel_rfl
 obtain ⟨v0, v1, e2⟩ := list27 (l := cs.toList) (by simpa using hsz.trans hc2)
 have ecs : cs = [v0, v1].toArray := by rw [← e2]
 subst ecs
 obtain ⟨fuel, hf⟩ := h
 replace hf : DataW.trod enc Try.prog W 0 (fun _ => true) true fuel 50 [v0, v1] = some (d, ps) := by simpa [Value.cells] using hf
 obtain ⟨xs, k, _, _, _, hxl, hf⟩ := DataW.trod_struct Try.underlying50 hf
 have cs1 : Try.prog.cellsOf 47 = 1 := by kernel_rfl
 have cs2 : Try.prog.cellsOf 48 = 1 := by kernel_rfl
 match xs, hxl with
 | [x0, x1], _ =>
  have g0 := hf 0 _ rfl
  have g1 := hf 1 _ rfl
  simp [cs1, cs2] at g0 g1
  obtain ⟨xa, xn, xc, Y, rfl, hxc, hX⟩ := open_row70 g0
  obtain ⟨ha, hn, hc, A, B, rfl, hhc, hH⟩ := open_hours70 g1
  exact ⟨xa, ha, xn, xc, hn, hc, Y, A, B, rfl, hxc, hhc, hX, hH⟩
end Go.Proofs.Ytbepolognfdkeaa
