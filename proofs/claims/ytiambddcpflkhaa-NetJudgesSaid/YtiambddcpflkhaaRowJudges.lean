/- NetJudges: the statement. -/
import Derived.Test.YtiambddcpflkhaaCanH
import Derived.Test.YtiambddcpflkhaaRowOpenC
import Derived.Test.YtiambddcpflkhaaRowOpen
set_option maxRecDepth 100000
namespace Go.Proofs.Ytiambddcpflkhaa
open Go.Joins Go.ChangeShapes Go.WideShapes Go.ChangeAt Go.RowKit Go.Deep Go.Proofs

set_option maxHeartbeats 1600000 in
theorem netJudges_lifted (os : Os) (started : os.Started) (H : Type) (enc : TypeId × Value → H) :
    ReturnsInHanded {} Try.checked os 8 .any (Rows.netJudgesSpec.pre6 enc Try.prog Try.f8 Rows.netJudgesRow.domain false) (Rows.netJudgesSpec.post enc Try.prog Try.f8 false true false false) := by
  refine returnsInHanded_of_change (C := Try.checked) Try.own started (by kernel_rfl) Try.func8
    (ChangeSpec.witness6 (enc := enc) (C := Try.checked) false ⟨#[], #[.slice none 0 0, .slice none 0 0], []⟩ 8 (by kernel_rfl) (by kernel_rfl) (by kernel_rfl) (by kernel_rfl)) ?_
  intro W base args ds gs before hval0 hW _ _
  have hW' := hW
  obtain ⟨p, q, hA0, hV, rfl, hfz, _⟩ := hW
  have hA : DataW.TrodAll enc Try.prog W 0 (fun _ => true) true Try.f8.params.toList args.toList ds p := hA0
  have hval : ∀ (j : Nat) t v, Try.f8.params[j]? = some t → args[j]? = some v → Value.okWide Try.prog W .any base t v := hval0
  rw [Try.params8] at hA hval
  obtain ⟨v0, v1, d0, d1, p0, p1, rfl, rfl, rfl, h0, h1⟩ := trodAll_two hA
  obtain ⟨rfl, rfl⟩ := trodVars_none hV
  clear hA0 hval0 hA
  simp only [List.append_nil] at hW' hfz
  have hlt : ∀ x ∈ p0 ++ p1, x.block < W.heap.size := fun x hx => hW'.lt x (by simpa using hx)
  obtain ⟨ao0, G0, Gc0, L0, D0, rfl, hG0, ht0⟩ := open_tab h0 (okWide_slice Try.underlying22 (hval 0 _ v0 rfl rfl))
  obtain ⟨ao1, G1, Gc1, L1, D1, rfl, hG1, ht1⟩ := open_tabC h1 (okWide_slice Try.underlying22 (hval 1 _ v1 rfl rfl))
  refine (netJudges_any ao0 ao1 G0 Gc0 G1 Gc1 L0 L1 D0 D1 W ht0 ht1).mono fun e W' ⟨he, hb⟩ => ?_
  subst he
  refine ⟨_, rfl, ?_⟩
  refine ⟨_, _, _, [], p0 ++ p1, [], hW', trodAll_mk1 (shut_bool Try.underlying4 true), trodAll_mk2 (hb.trod Try.laidOut (by kernel_rfl) (of_decide_eq_true (by kernel_rfl)) h0 (fun x hx => hlt x (by simp at hx ⊢; simp [hx]))) (hb.trod Try.laidOut (by kernel_rfl) (of_decide_eq_true (by kernel_rfl)) h1 (fun x hx => hlt x (by simp at hx ⊢; simp [hx]))), rfl, hb.frame _, fun h => by cases h⟩

theorem NetJudges_holds : Rows.NetJudgesSaid :=
  OpenClaim.holds_of_wide 8 Try.f8 rfl rfl rfl rfl rfl rfl rfl ⟨rfl, rfl, rfl, rfl, rfl⟩ rfl rfl rfl rfl rfl (by kernel_rfl) Try.func8 (by kernel_rfl)
    (of_decide_eq_true (by kernel_rfl)) (by unfold Func.isWrapper; rw [if_neg (of_decide_eq_false (by kernel_rfl))]; exact ⟨rfl, rfl⟩)
    (fun os started H enc _ => netJudges_lifted os started H enc)
#print axioms NetJudges_holds
end Go.Proofs.Ytiambddcpflkhaa
