/- The rows of chapter 6: opening of the arguments, the statements. -/
import Derived.Test.YtiambddcpflkhaaNetK
import Derived.Test.YtiambddcpflkhaaChecked
import Derived.Test.YtiambddcpflkhaaRows
import Derived.ProofKit
import Derived.SizedLaws
import Derived.Deep.Modes
import Derived.Deep.Frames
import Derived.Deep.Matrix
import Derived.Carry
set_option maxRecDepth 100000
namespace Go.Proofs.Ytiambddcpflkhaa
open Go.ChangeShapes Go.WideShapes Go.ChangeAt Go.RowKit Go.Deep Go.Proofs

theorem Try.own : ownKnob Try.prog.godebug = none := by kernel_rfl
theorem Try.laidOut : laidOutB Try.prog = true := by kernel_rfl

theorem cell_lt {w : World} {b off : Nat} {v : Value} (h : w.cell? ⟨b, off, none⟩ = some v) : b < w.heap.size := by
  by_cases hb : b < w.heap.size
  · exact hb
  · have : w.heap[b]? = none := by simp; omega
    simp [World.cell?, this] at h

theorem iat_of {W : World} (a : Addr) (n : Nat) (f : Nat → Value) (h : ∀ i, i < n → W.cell? (a.add i) = some (f i)) : IAt W.heap.size W (some a) n (fun i => f i.toNat) := by
  by_cases hn : n = 0
  · subst hn; exact IAt.nil _ _ _ _
  · obtain ⟨b, o, s⟩ := a
    have hs : s = none := by simpa [Addr.add] using World.cell?_spot (h 0 (by omega))
    subst hs
    refine ⟨b, o, fun _ => rfl, fun _ => ?_, fun i hi => ?_⟩
    · have := h 0 (by omega)
      rw [Addr.add_mid] at this
      exact cell_lt this
    · have := h i hi
      rw [Addr.add_mid] at this
      exact this

theorem open_tab {H : Type} {enc : TypeId × Value → H} {W : World} {v : Value} {d : DataW H} {ps : List MemPlace} (h : DataW.Trod enc Try.prog W 0 (fun _ => true) true 22 v d ps) (hs : ∃ a l c, v = .slice a l c) :
    ∃ (ao : Option Addr) (G Gc : Nat) (L : Int → Nat) (D : Int → Int → Int), v = .slice ao G Gc ∧ G ≤ Gc ∧ ITab W.heap.size W ao G L (fun r c => .int .i64 (D r c)) := by
  obtain ⟨fuel, hf⟩ := h
  obtain ⟨sa, sl, sc, rfl⟩ := hs
  rcases open_int_rows Try.underlying22 Try.underlying23 Try.underlying2 (by kernel_rfl) (by kernel_rfl) hf with ⟨hcs, hx⟩ | ⟨a, len, cap, A, L, C, Z, hcs, _, hl, hm, hx, hrows⟩
  · have hv : Value.slice sa sl sc = .slice none 0 0 := by
      simpa [Value.cells] using hcs
    exact ⟨none, 0, 0, fun _ => 0, fun _ _ => 0, hv, Nat.le_refl _, fun _ => none, fun _ => 0, IAt.nil _ _ _ _, fun r h0 h1 => by omega⟩
  · have hv : Value.slice sa sl sc = .slice (some a) len cap := by
      simpa [Value.cells] using hcs
    refine ⟨some a, len, cap, fun r => L r.toNat, fun r c => (Z r.toNat).getD c.toNat 0, hv, hl, fun r => A r.toNat, fun r => C r.toNat, iat_of a len (fun r => .slice (A r) (L r) (C r)) (fun i hi => (hrows i (by omega)).1), fun r h0 h1 => ?_⟩
    obtain ⟨_, h1', _, _, _, h3, h4⟩ := hrows r.toNat (by omega)
    dsimp only
    cases hA : A r.toNat with
    | none =>
      rw [show L r.toNat = 0 by have := h3 hA; omega]
      exact IAt.nil _ _ _ _
    | some a' =>
      exact iat_of a' (L r.toNat) (fun c => .int .i64 ((Z r.toNat).getD c 0)) (fun i hi => (h4 a' hA).2 i (by omega))

theorem open_row {H : Type} {enc : TypeId × Value → H} {W : World} {v : Value} {d : DataW H} {ps : List MemPlace} (h : DataW.Trod enc Try.prog W 0 (fun _ => true) true 23 v d ps) (hs : ∃ a l c, v = .slice a l c) :
    ∃ (ao : Option Addr) (n c : Nat) (g : Int → Int), v = .slice ao n c ∧ n ≤ c ∧ IAt W.heap.size W ao n (fun i => .int .i64 (g i)) := by
  obtain ⟨fuel, hf⟩ := h
  obtain ⟨sa, sl, sc, rfl⟩ := hs
  rcases open_ints Try.underlying23 Try.underlying2 (by kernel_rfl) hf with ⟨hcs, hx⟩ | ⟨a, len, cap, zs, hcs, _, hl, hm, hz, hx, hc, _⟩
  · have hv : Value.slice sa sl sc = .slice none 0 0 := by
      simpa [Value.cells] using hcs
    exact ⟨none, 0, 0, fun _ => 0, hv, Nat.le_refl _, IAt.nil _ _ _ _⟩
  · have hv : Value.slice sa sl sc = .slice (some a) len cap := by
      simpa [Value.cells] using hcs
    simp only [if_true] at hz
    exact ⟨some a, len, cap, fun i => zs.getD i.toNat 0, hv, hl, iat_of a len (fun i => .int .i64 (zs.getD i 0)) (fun i hi => hc i (by omega))⟩

set_option maxHeartbeats 1600000 in
theorem netBounds_lifted (os : Os) (started : os.Started) (H : Type) (enc : TypeId × Value → H) :
    ReturnsInHanded {} Try.checked os 3 .any (Rows.netBoundsSpec.pre6 enc Try.prog Try.f3 Rows.netBoundsRow.domain false) (Rows.netBoundsSpec.post enc Try.prog Try.f3 false true false false) := by
  refine returnsInHanded_of_change (C := Try.checked) Try.own started (by kernel_rfl) Try.func3
    (ChangeSpec.witness6 (enc := enc) (C := Try.checked) false ⟨#[], #[.slice none 0 0, .slice none 0 0], []⟩ 8 (by kernel_rfl) (by kernel_rfl) (by kernel_rfl) (by kernel_rfl)) ?_
  intro W base args ds gs before hval0 hW _ _
  have hW' := hW
  obtain ⟨p, q, hA0, hV, rfl, hfz, _⟩ := hW
  have hA : DataW.TrodAll enc Try.prog W 0 (fun _ => true) true Try.f3.params.toList args.toList ds p := hA0
  have hval : ∀ (j : Nat) t v, Try.f3.params[j]? = some t → args[j]? = some v → Value.okWide Try.prog W .any base t v := hval0
  rw [Try.params3] at hA hval
  obtain ⟨v0, v1, d0, d1, p0, p1, rfl, rfl, rfl, h0, h1⟩ := trodAll_two hA
  obtain ⟨rfl, rfl⟩ := trodVars_none hV
  clear hA0 hval0 hA
  simp only [List.append_nil] at hW' hfz
  have hlt : ∀ x ∈ p0 ++ p1, x.block < W.heap.size := fun x hx => hW'.lt x (by simpa using hx)
  obtain ⟨ao, G, Gc, L, D, rfl, _, ht⟩ := open_tab h0 (okWide_slice Try.underlying22 (hval 0 _ v0 rfl rfl))
  obtain ⟨bo, R, cb, g, rfl, hR, hr⟩ := open_row h1 (okWide_slice Try.underlying23 (hval 1 _ v1 rfl rfl))
  refine (netBounds_any ao bo G Gc R cb L D g W hR ht hr).mono fun e W' ⟨he, hb⟩ => ?_
  subst he
  refine ⟨_, rfl, ?_⟩
  refine ⟨_, _, _, [], p0 ++ p1, [], hW', trodAll_mk1 (shut_bool Try.underlying4 true), trodAll_mk2 (hb.trod Try.laidOut (by kernel_rfl) (of_decide_eq_true (by kernel_rfl)) h0 (fun x hx => hlt x (by simp [hx]))) (hb.trod Try.laidOut (by kernel_rfl) (of_decide_eq_true (by kernel_rfl)) h1 (fun x hx => hlt x (by simp [hx]))), rfl, hb.frame _, fun h => by cases h⟩

theorem NetBounds_holds : Rows.NetBoundsSaid :=
  OpenClaim.holds_of_wide 3 Try.f3 rfl rfl rfl rfl rfl rfl rfl ⟨rfl, rfl, rfl, rfl, rfl⟩ rfl rfl rfl rfl rfl (by kernel_rfl) Try.func3 (by kernel_rfl)
    (of_decide_eq_true (by kernel_rfl)) (by unfold Func.isWrapper; rw [if_neg (of_decide_eq_false (by kernel_rfl))]; exact ⟨rfl, rfl⟩)
    (fun os started H enc _ => netBounds_lifted os started H enc)
#print axioms NetBounds_holds
end Go.Proofs.Ytiambddcpflkhaa
