import Derived.Test.YtijffdhailddoaaPdB
import Derived.Test.YtijffdhailddoaaRowOpen
set_option maxRecDepth 100000
namespace Go.Proofs.Ytijffdhailddoaa
open Go.Joins Go.ChangeShapes Go.WideShapes Go.ChangeAt Go.RowKit Go.Deep Go.Proofs
theorem open_rowI {H : Type} {enc : TypeId × Value → H} {W : World} {v : Value} {d : DataW H} {ps : List MemPlace} (h : DataW.Trod enc Try.prog W 0 (fun _ => true) true 24 v d ps) (hs : ∃ a l c, v = .slice a l c) :
  ∃ (ao : Option Addr) (n c : Nat) (g : Int → Int), v = .slice ao n c ∧ n ≤ c ∧ IAt W.heap.size W ao n (fun i => .int .i64 (g i)) := by
 obtain ⟨fuel, hf⟩ := h
 obtain ⟨sa, sl, sc, rfl⟩ := hs
 rcases open_ints Try.underlying24 Try.underlying3 (by kernel_rfl) hf with ⟨hcs, hx⟩ | ⟨a, len, cap, zs, hcs, _, hl, hm, hz, hx, hc, _⟩
 ·have hv : Value.slice sa sl sc = .slice none 0 0 := by
   simpa [Value.cells] using hcs
  exact ⟨none, 0, 0, fun _ => 0, hv, Nat.le_refl _, IAt.nil _ _ _ _⟩
 ·have hv : Value.slice sa sl sc = .slice (some a) len cap := by
   simpa [Value.cells] using hcs
  simp only [if_true] at hz
  exact ⟨some a, len, cap, fun i => zs.getD i.toNat 0, hv, hl, iat_of a len (fun i => .int .i64 (zs.getD i 0)) (fun i hi => hc i (by omega))⟩
set_option maxHeartbeats 1600000 in
theorem topPaid_lifted (os : Os) (started : os.Started) (H : Type) (enc : TypeId × Value → H) :
  ReturnsInHanded {} Try.checked os 3 .any (Rows.topPaidSpec.pre6 enc Try.prog Try.f3 Rows.topPaidRow.domain false) (Rows.topPaidSpec.post enc Try.prog Try.f3 false true false false) := by
 refine returnsInHanded_of_change (C := Try.checked) Try.own started (by kernel_rfl) Try.func3
  (ChangeSpec.witness6 (enc := enc) (C := Try.checked) false ⟨#[], #[.slice none 0 0, .slice none 0 0, .slice none 0 0], []⟩ 8 (by kernel_rfl) (by kernel_rfl) (by kernel_rfl) (by kernel_rfl)) ?_
 intro W base args ds gs before hval0 hW _ _
 have hW' := hW
 obtain ⟨p, q, hA0, hV, rfl, hfz, _⟩ := hW
 have hA : DataW.TrodAll enc Try.prog W 0 (fun _ => true) true Try.f3.params.toList args.toList ds p := hA0
 have hval : ∀ (j : Nat) t v, Try.f3.params[j]? = some t → args[j]? = some v → Value.okWide Try.prog W .any base t v := hval0
 rw [Try.params3] at hA hval
 obtain ⟨v0, v1, v2, d0, d1, d2, p0, p1, p2, rfl, rfl, rfl, h0, h1, h2⟩ := trodAll_three hA
 obtain ⟨rfl, rfl⟩ := trodVars_none hV
 clear hA0 hval0 hA
 simp only [List.append_nil] at hW' hfz
 have hlt : ∀ x ∈ p0 ++ p1 ++ p2, x.block < W.heap.size := fun x hx => hW'.lt x (by simpa using hx)
 obtain ⟨ao0, G0, Gc0, L0, D0, rfl, hG0, ht0⟩ := open_tab h0 (okWide_slice Try.underlying22 (hval 0 _ v0 rfl rfl))
 obtain ⟨bo1, R1, cb1, g1, rfl, hR1, hr1⟩ := open_row h1 (okWide_slice Try.underlying23 (hval 1 _ v1 rfl rfl))
 obtain ⟨bo2, R2, cb2, g2, rfl, hR2, hr2⟩ := open_rowI h2 (okWide_slice Try.underlying24 (hval 2 _ v2 rfl rfl))
 refine (topPaid_any ao0 bo1 bo2 G0 Gc0 R1 cb1 R2 cb2 L0 D0 g1 g2 W ht0 hr1 hr2).mono fun e W' ⟨he, hb⟩ => ?_
 subst he
 refine ⟨_, rfl, ?_⟩
 refine ⟨_, _, _, [], p0 ++ p1 ++ p2, [], hW', trodAll_mk1 (shut_bool Try.underlying4 true), (by rw [List.append_assoc]; exact trodAll_mk3 (hb.trod Try.laidOut (by kernel_rfl) (of_decide_eq_true (by kernel_rfl)) h0 (fun x hx => hlt x (by simp at hx ⊢; simp [hx]))) (hb.trod Try.laidOut (by kernel_rfl) (of_decide_eq_true (by kernel_rfl)) h1 (fun x hx => hlt x (by simp at hx ⊢; simp [hx]))) (hb.trod Try.laidOut (by kernel_rfl) (of_decide_eq_true (by kernel_rfl)) h2 (fun x hx => hlt x (by simp at hx ⊢; simp [hx])))), rfl, hb.frame _, fun h => by cases h⟩
theorem TopPaid_holds : Rows.TopPaidSaid :=
 OpenClaim.holds_of_wide 3 Try.f3 rfl rfl rfl rfl rfl rfl rfl ⟨rfl, rfl, rfl, rfl, rfl⟩ rfl rfl rfl rfl rfl (by kernel_rfl) Try.func3 (by kernel_rfl)
  (of_decide_eq_true (by kernel_rfl)) (by unfold Func.isWrapper; rw [if_neg (of_decide_eq_false (by kernel_rfl))]; exact ⟨rfl, rfl⟩)
  (fun os started H enc _ => topPaid_lifted os started H enc)
#print axioms TopPaid_holds
end Go.Proofs.Ytijffdhailddoaa
