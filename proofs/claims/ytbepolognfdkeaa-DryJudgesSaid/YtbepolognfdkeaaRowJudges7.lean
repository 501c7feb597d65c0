import Derived.Test.YtbepolognfdkeaaGcQ
import Derived.Test.YtbepolognfdkeaaRowOpenJ
set_option maxRecDepth 100000
namespace Go.Proofs.Ytbepolognfdkeaa
open Go.Joins Go.ChangeShapes Go.WideShapes Go.ChangeAt Go.RowKit Go.Deep Go.Proofs
set_option maxHeartbeats 1600000 in
theorem dryJudges_lifted (os : Os) (started : os.Started) (H : Type) (enc : TypeId × Value → H) :
  ReturnsInHanded {} Try.checked os 8 .any (Rows.dryJudgesSpec.pre6 enc Try.prog Try.f8 Rows.dryJudgesRow.domain false) (Rows.dryJudgesSpec.post enc Try.prog Try.f8 false true false false) := by
 refine returnsInHanded_of_change (C := Try.checked) Try.own started (by kernel_rfl) Try.func8
  (ChangeSpec.witness6 (enc := enc) (C := Try.checked) false ⟨#[], #[.slice none 0 0, .slice none 0 0, .agg #[.slice none 0 0, .slice none 0 0]], []⟩ 8 (by kernel_rfl) (by kernel_rfl) (by kernel_rfl) (by kernel_rfl)) ?_
 intro W base args ds gs before hval0 hW _ _
 have hW' := hW
 obtain ⟨p, q, hA0, hV, rfl, hfz, _⟩ := hW
 have hA : DataW.TrodAll enc Try.prog W 0 (fun _ => true) true Try.f8.params.toList args.toList ds p := hA0
 have hval : ∀ (j : Nat) t v, Try.f8.params[j]? = some t → args[j]? = some v → Value.okWide Try.prog W .any base t v := hval0
 rw [Try.params8] at hA hval
 obtain ⟨v0, v1, v2, d0, d1, d2, p0, p1, p2, rfl, rfl, rfl, h0, h1, h2⟩ := trodAll_three hA
 obtain ⟨rfl, rfl⟩ := trodVars_none hV
 clear hA0 hval0 hA
 simp only [List.append_nil] at hW' hfz
 have hlt : ∀ x ∈ p0 ++ p1 ++ p2, x.block < W.heap.size := fun x hx => hW'.lt x (by simpa using hx)
 obtain ⟨la0, lc0, l0, rfl, hlc0, hI0, hl0⟩ := open_loads h0 (okWide_slice Try.underlying22 (hval 0 _ v0 rfl rfl))
 obtain ⟨la1, lc1, T1, rfl, hl1⟩ := open_turns h1 (okWide_slice Try.underlying46 (hval 1 _ v1 rfl rfl))
 obtain ⟨xa2, ha2, xn2, xc2, hn2, hc2, Y2, A2, B2, rfl, hxc2, hhc2, hX2, hH2⟩ := open_crush (hval 2 _ v2 rfl rfl) h2
 refine (judges7_any la0 lc0 l0 la1 lc1 T1 xa2 xn2 xc2 ha2 hn2 hc2 Y2 A2 B2 W hlc0 hI0 hl0 hl1 hxc2 hhc2 hX2 hH2).mono fun e W' ⟨he, hb⟩ => ?_
 subst he
 refine ⟨_, rfl, ?_⟩
 refine ⟨_, _, _, [], p0 ++ p1 ++ p2, [], hW', trodAll_mk1 (shut_bool Try.underlying4 true), (by rw [List.append_assoc]; exact trodAll_mk3 (hb.trod Try.laidOut (by kernel_rfl) (of_decide_eq_true (by kernel_rfl)) h0 (fun x hx => hlt x (by simp at hx ⊢; simp [hx]))) (hb.trod Try.laidOut (by kernel_rfl) (of_decide_eq_true (by kernel_rfl)) h1 (fun x hx => hlt x (by simp at hx ⊢; simp [hx]))) (hb.trod Try.laidOut (by kernel_rfl) (of_decide_eq_true (by kernel_rfl)) h2 (fun x hx => hlt x (by simp at hx ⊢; simp [hx])))), rfl, hb.frame _, fun h => by cases h⟩
theorem DryJudges_holds : Rows.DryJudgesSaid :=
 OpenClaim.holds_of_wide 8 Try.f8 rfl rfl rfl rfl rfl rfl rfl ⟨rfl, rfl, rfl, rfl, rfl⟩ rfl rfl rfl rfl rfl (by kernel_rfl) Try.func8 (by kernel_rfl)
  (of_decide_eq_true (by kernel_rfl)) (by unfold Func.isWrapper; rw [if_neg (of_decide_eq_false (by kernel_rfl))]; exact ⟨rfl, rfl⟩)
  (fun os started H enc _ => dryJudges_lifted os started H enc)
#print axioms DryJudges_holds
end Go.Proofs.Ytbepolognfdkeaa
