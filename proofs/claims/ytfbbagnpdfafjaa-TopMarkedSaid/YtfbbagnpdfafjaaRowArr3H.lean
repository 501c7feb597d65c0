import Derived.Test.YtfbbagnpdfafjaaPdA
import Derived.Test.YtfbbagnpdfafjaaEff
import Derived.Test.YtfbbagnpdfafjaaTab
import Derived.Test.YtfbbagnpdfafjaaChecked
import Derived.Test.YtfbbagnpdfafjaaRows
import Derived.ProofKit
import Derived.SizedLaws
import Derived.Deep.Modes
import Derived.Deep.Frames
import Derived.Deep.Matrix
import Derived.Carry
import Derived.Lib.SmallJoins
import Derived.Test.YtfbbagnpdfafjaaDtE
import Derived.Deep.Slices
import Derived.Test.YtfbbagnpdfafjaaArr
import Derived.Laws.IdiomArrays
set_option maxRecDepth 100000
namespace Go.Proofs.Ytfbbagnpdfafjaa
open Go.RowKit Go.Proofs
theorem gl_repl (n : Nat) (i : Int) : gl (List.replicate n 0) i = 0 := by
 unfold gl
 rw [List.getD_eq_getElem?_getD, List.getElem?_replicate]
 split <;> rfl
theorem newN (n : Nat) (pat : Int) (f1 f2 : List Int) (e1 : f1.length = n) (e2 : f2.length = n) (ma ga : Option Addr) (mc gc B : Nat) (H : List (Option Blk)) (w0 w : World) (hO : Own B w0 w H) (h1 : SrcI H ma n (gl f1)) (h2 : SrcI H ga n (gl f2)) (hm : 1 ≤ n ∧ n ≤ 1000) (hp : 1 ≤ pat ∧ pat ≤ 1000) (hf1 : ∀ x ∈ f1, 0 ≤ x ∧ x ≤ 1000000000000) (hf2 : ∀ x ∈ f2, 0 ≤ x ∧ x ≤ 1000000000000) :
  Calls Try.prog 50 #[.agg #[iv n, iv pat, .slice ma n mc, .slice ga n gc]] w fun e w' => ∃ A, e = .returned (.tuple #[ptr A.W, iv 0]) ∧ WAt B w0 w' A (MW.init n pat f1 f2) [] H := by
 have h := newOk n pat f1 f2 ma ga mc gc B H w0 w hO (e1.symm ▸ h1) (e2.symm ▸ h2) (by omega) hp (by omega) (by omega) hf1 hf2
 rw [e1, e2] at h
 exact h
theorem bcode_ok {X : MW} {d : Dl} (h : d.Ok X) (hc : Calm X) (hd : X.deals.length < 1000) (hb : X.bag.length ≤ 3000) : bcode X d = 0 := by
 unfold Dl.Ok at h
 unfold bcode
 rw [if_neg (by unfold DlBad; omega)]
 have hdown : X.c.down = false := (hc 0 (.inl rfl)).1
 rw [if_neg (by rw [hdown]; exact Bool.noConfusion), if_neg (by omega)]
theorem begin0 (A : WA) (X : MW) (d : Dl) (B : Nat) (R : List (Option Blk)) (w0 w : World) (hG : Good X) (hb : X.bag.length ≤ 3000) (h0 : bcode X d = 0) (h : WAt B w0 w A X [] R) :
  Calls Try.prog 51 #[ptr A.W, .agg (dll d).toArray] w fun e w' => e = .returned (.tuple #[iv (X.deals.length + 1), iv 0]) ∧ WAt B w0 w' A (X.begin d) [] R :=
 (begin_any A X d B [] R w0 w hG (by omega) h).mono fun e w' h => by
  rw [if_pos h0, if_pos h0, h0] at h
  exact h
theorem bag_phi (X : MW) : X.bag.length ≤ phi X := Nat.le_add_right _ _
theorem stQ_rng {n : Nat} {p : Int → Int} {M : Int} (hs : sm p n = 0) {K : Nat} (h : Settled n p K) (hr : ∀ i, -M ≤ p i ∧ p i ≤ M) : ∀ k, k ≤ K → ∀ i, -M ≤ stP n p k i ∧ stP n p k i ≤ M
 | 0, _ => hr
 | k + 1, hk => by
  obtain ⟨a, b, ha, hb, _, _⟩ := step_ok (stP_sum hs k fun j hj => h.some j (by omega)) (h.some k (by omega))
  exact nxt_rng ha hb (stQ_rng hs h hr k (by omega))
theorem moved_le {n : Nat} {p : Int → Int} {M : Int} (hs : sm p n = 0) {K : Nat} (h : Settled n p K) (hr : ∀ i, -M ≤ p i ∧ p i ≤ M) {k : Nat} (hk : k < K) : moved n (stP n p k) ≤ M := by
 have := (stQ_rng hs h hr k (by omega) (getter n (stP n p k))).2
 unfold moved
 omega
theorem pay_ok {n : Nat} {p : Int → Int} (hs : sm p n = 0) {K : Nat} (h : Settled n p K) {f1 : List Int} (hl : f1.length = n) (hf : ∀ i : Int, 0 ≤ i → i < n → max 0 (-(p i)) ≤ gl f1 i) (i : Int) (i0 : 0 ≤ i) : paidT n p i K ≤ f1.getD i.toNat 0 := by
 by_cases i1 : i < n
 ·rw [(settled_paid hs h i0 i1).2]
  exact hf i i0 i1
 ·have e : paidT n p i K = 0 := by
   unfold paidT
   rw [sm_congr (g := fun _ => 0) fun j j0 j1 => if_neg fun e => by have := (h.amount hs (k := j.toNat) (by omega)).2.1.2; omega]
   rw [sm_const 0 (by omega)]
   omega
  rw [e, List.getD_eq_getElem?_getD, List.getElem?_eq_none (by omega)]
  exact Int.le_refl _
end Go.Proofs.Ytfbbagnpdfafjaa
set_option maxRecDepth 100000
namespace Go.Proofs.Ytfbbagnpdfafjaa
open Go.Joins Go.ChangeShapes Go.WideShapes Go.ChangeAt Go.RowKit Go.Deep Go.Proofs
theorem Try.own : ownKnob Try.prog.godebug = none := by kernel_rfl
theorem Try.laidOut : laidOutB Try.prog = true := by kernel_rfl
theorem cell_lt {w : World} {b off : Nat} {v : Value} (h : w.cell? ⟨b, off, none⟩ = some v) : b < w.heap.size := by
 by_cases hb : b < w.heap.size
 ·exact hb
 ·have : w.heap[b]? = none := by simp; omega
  simp [World.cell?, this] at h
end Go.Proofs.Ytfbbagnpdfafjaa
set_option maxRecDepth 100000
namespace Go.Proofs.Ytfbbagnpdfafjaa
open Go.RowKit Go.Proofs
def actL (k a b m q p n : Int) : List Value := [iv k, iv a, iv b, iv m, iv q, iv p, iv n]
end Go.Proofs.Ytfbbagnpdfafjaa
set_option maxRecDepth 100000
namespace Go.Proofs.Ytfbbagnpdfafjaa
open Go.Joins Go.ChangeShapes Go.WideShapes Go.ChangeAt Go.RowKit Go.Deep Go.Proofs
theorem sat_ofH {W : World} (a : Addr) (s n : Nat) (G : Int → List Value) (hs : 0 < s) (h : ∀ i, i < n → ∀ j, j < s → W.cell? (a.add (i * s + j)) = some ((G (i : Int)).getD j undef)) : SAt W.heap.size W (some a) s n G := by
 by_cases hn : n = 0
 ·subst hn
  have := RAt.nil W.heap.size W (some a) (fun j => (G ((j / s : Nat) : Int)).getD (j % s) undef)
  rw [← Nat.zero_mul s] at this
  exact this
 ·obtain ⟨b, o, sp⟩ := a
  have hsp : sp = none := by simpa [Addr.add] using World.cell?_spot (h 0 (by omega) 0 hs)
  subst hsp
  refine ⟨b, o, fun _ => rfl, fun _ => ?_, fun j hj => ?_⟩
  ·have := h 0 (by omega) 0 hs
   rw [Addr.add_mid] at this
   exact cell_lt this
  ·have h1 : j / s < n := Nat.div_lt_of_lt_mul (by rw [Nat.mul_comm]; exact hj)
   have := h (j / s) h1 (j % s) (Nat.mod_lt _ hs)
   rw [Addr.add_mid] at this
   have hdm := Nat.div_add_mod j s
   rw [Nat.mul_comm] at hdm
   rw [hdm] at this
   exact this
structure HAct where
 k : Int
 a : Int
 b : Int
 m : Int
 q : Int
 p : Int
 n : Int
instance : Inhabited HAct := ⟨⟨0, 0, 0, 0, 0, 0, 0⟩⟩
def HAct.l (x : HAct) : List Value := actL x.k x.a x.b x.m x.q x.p x.n
end Go.Proofs.Ytfbbagnpdfafjaa
set_option maxRecDepth 100000
namespace Go.Proofs.Ytfbbagnpdfafjaa
open Go.Joins Go.ChangeShapes Go.WideShapes Go.ChangeAt Go.RowKit Go.Deep Go.Proofs
structure R3 where
 b : Int → Int
 s : Int → Int
 q : Int → Int
def R3.l (S : R3) (i : Int) : List Value := [.int .i64 (S.b i), .int .i64 (S.s i), .int .i64 (S.q i)]
theorem list3 {l : List Value} (h : l.length = 3) : ∃ a b c, l = [a, b, c] := by
 match l, h with
 | [a, b, c], _ => exact ⟨a, b, c, rfl⟩
theorem open_arr3 {H : Type} {enc : TypeId × Value → H} {W : World} {n : Nat} {l : List Value} (hl : l.length = 3) {y : DataW H × List MemPlace} (h : DataW.trod enc Try.prog W 0 (fun _ => true) true n 95 l = some y) : ∃ x : Int × Int × Int, l = [.int .i64 x.1, .int .i64 x.2.1, .int .i64 x.2.2] := by
 obtain ⟨c0, c1, c2, rfl⟩ := list3 hl
 obtain ⟨y0, y1, y2, n, _, h0, h1, h2⟩ := trod_array3 Try.underlying95 (by kernel_rfl) h
 obtain ⟨a, e0, _⟩ := DataW.trod_int Try.underlying3 h0
 obtain ⟨b, e1, _⟩ := DataW.trod_int Try.underlying3 h1
 obtain ⟨c, e2, _⟩ := DataW.trod_int Try.underlying3 h2
 simp only [List.cons.injEq, and_true] at e0 e1 e2
 subst e0 e1 e2
 exact ⟨(a, b, c), rfl⟩
theorem open_rows3 {H : Type} {enc : TypeId × Value → H} {W : World} {v : Value} {d : DataW H} {ps : List MemPlace} (h : DataW.Trod enc Try.prog W 0 (fun _ => true) true 94 v d ps) (hs : ∃ a l c, v = .slice a l c) :
  ∃ (ao : Option Addr) (n c : Nat) (S : R3), v = .slice ao n c ∧ SAt W.heap.size W ao 3 n S.l := by
 obtain ⟨fuel, hf⟩ := h
 obtain ⟨sa, sl, sc, rfl⟩ := hs
 rcases open_slice Try.underlying94 hf with ⟨hcs, _⟩ | ⟨a, len, cap, m, n, D, Pl, hcs, _, hl, _, hm, _, hx⟩
 ·have hv : Value.slice sa sl sc = .slice none 0 0 := by simpa [Value.cells] using hcs
  rw [hv]
  exact ⟨none, 0, 0, ⟨fun _ => 0, fun _ => 0, fun _ => 0⟩, rfl, SAt.nil _ _ _ _ _⟩
 ·have hv : Value.slice sa sl sc = .slice (some a) len cap := by simpa [Value.cells] using hcs
  rw [hv]
  have hlm : len ≤ m := by rw [hm]; simp; omega
  have each : ∀ i, i < len → ∃ q : Int × Int × Int, ∀ j, j < 3 → W.cell? (a.add (i * 3 + j)) = some (([.int .i64 q.1, .int .i64 q.2.1, .int .i64 q.2.2] : List Value).getD j undef) := by
   intro i hi
   obtain ⟨cs', h1, h2⟩ := hx i (by omega)
   have ce : Try.prog.cellsOf 95 = 3 := by kernel_rfl
   rw [ce] at h1
   obtain ⟨_, hlen, hcell⟩ := World.cells?_some h1
   obtain ⟨q, rfl⟩ := open_arr3 hlen h2
   refine ⟨q, fun j hj => ?_⟩
   have hc := hcell j hj
   rw [add_add] at hc
   rw [hc]
   have : j < ([.int .i64 q.1, .int .i64 q.2.1, .int .i64 q.2.2] : List Value).length := by rw [hlen]; exact hj
   rw [List.getD_eq_getElem?_getD, List.getElem?_eq_getElem this]
   rfl
  obtain ⟨q, hq⟩ := choose_lt each
  refine ⟨some a, len, cap, ⟨fun i => (q i.toNat).1, fun i => (q i.toNat).2.1, fun i => (q i.toNat).2.2⟩, rfl, sat_ofH a 3 len _ (by decide) fun i hi j hj => ?_⟩
  exact hq i hi j hj
end Go.Proofs.Ytfbbagnpdfafjaa
