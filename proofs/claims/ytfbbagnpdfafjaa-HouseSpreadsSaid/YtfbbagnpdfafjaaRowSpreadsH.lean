import Derived.Test.YtfbbagnpdfafjaaHdE
import Derived.Test.YtfbbagnpdfafjaaRowAct1H
import Derived.Test.YtfbbagnpdfafjaaRowOpenH
set_option maxRecDepth 100000
namespace Go.Proofs.Ytfbbagnpdfafjaa
open Go.Joins Go.ChangeShapes Go.WideShapes Go.ChangeAt Go.RowKit Go.Deep Go.Proofs
set_option maxHeartbeats 1600000 in
theorem houseSpreads_lifted (os : Os) (started : os.Started) (H : Type) (enc : TypeId × Value → H) :
  ReturnsInHanded {} Try.checked os 3 .any (Rows.houseSpreadsSpec.pre6 enc Try.prog Try.f3 Rows.houseSpreadsRow.domain false) (Rows.houseSpreadsSpec.post enc Try.prog Try.f3 false true false false) := by
 refine returnsInHanded_of_change (C := Try.checked) Try.own started (by kernel_rfl) Try.func3
  (ChangeSpec.witness6 (enc := enc) (C := Try.checked) false ⟨#[], #[.agg #[.int .i64 0, .int .i64 0, .slice none 0 0, .slice none 0 0, .int .i64 0, .int .i64 0], .slice none 0 0, .agg #[.int .i64 0, .int .i64 0, .int .i64 0, .int .i64 0, .int .i64 0, .int .i64 0, .int .i64 0]], []⟩ 8 (by kernel_rfl) (by kernel_rfl) (by kernel_rfl) (by kernel_rfl)) ?_
 intro W base args ds gs before hval0 hW _ _
 have hW' := hW
 obtain ⟨p, q, hA0, hV, rfl, hfz, _⟩ := hW
 have hA : DataW.TrodAll enc Try.prog W 0 (fun _ => true) true Try.f3.params.toList args.toList ds p := hA0
 have hval : ∀ (j : Nat) t v, Try.f3.params[j]? = some t → args[j]? = some v → Value.okWide Try.prog W .any base t v := hval0
 rw [Try.params3] at hA hval
 obtain ⟨v0, v1, v2, d0, d1, d2, p0, p1, p2, rfl, rfl, rfl, h0, h1, h2⟩ := trodAll_three hA
 obtain ⟨rfl, rfl⟩ := trodVars_none hV
 clear hA0 hval0 hA
 simp only [List.append_nil] at hW' hfz
 have hlt : ∀ x ∈ p0 ++ p1 ++ p2, x.block < W.heap.size := fun x hx => hW'.lt x (by simpa using hx)
 obtain ⟨mm0, mn0, pa0, pn0, pc0, P0, ma0, mk0, mc0, L0, F0, rt0, cp0, rfl, hpc0, hP0, hT0⟩ := open_hcfg (hval 0 _ v0 rfl rfl) h0
 obtain ⟨la1, ln1, lc1, S1, rfl, hS1⟩ := open_hacts h1 (okWide_slice Try.underlying26 (hval 1 _ v1 rfl rfl))
 obtain ⟨x2, rfl⟩ := open_hact1 (hval 2 _ v2 rfl rfl) h2
 refine (spreads9_any mm0 mn0 pa0 ma0 la1 pn0 pc0 mk0 mc0 ln1 lc1 rt0 cp0 P0 L0 F0 S1 x2 W hP0 hT0.tab hS1).mono fun e W' ⟨he, hb⟩ => ?_
 subst he
 refine ⟨_, rfl, ?_⟩
 refine ⟨_, _, _, [], p0 ++ p1 ++ p2, [], hW', trodAll_mk1 (shut_bool Try.underlying4 true), (by rw [List.append_assoc]; exact trodAll_mk3 (hb.trod Try.laidOut (by kernel_rfl) (of_decide_eq_true (by kernel_rfl)) h0 (fun x hx => hlt x (by simp at hx ⊢; simp [hx]))) (hb.trod Try.laidOut (by kernel_rfl) (of_decide_eq_true (by kernel_rfl)) h1 (fun x hx => hlt x (by simp at hx ⊢; simp [hx]))) (hb.trod Try.laidOut (by kernel_rfl) (of_decide_eq_true (by kernel_rfl)) h2 (fun x hx => hlt x (by simp at hx ⊢; simp [hx])))), rfl, hb.frame _, fun h => by cases h⟩
theorem HouseSpreads_holds : Rows.HouseSpreadsSaid :=
 OpenClaim.holds_of_wide 3 Try.f3 rfl rfl rfl rfl rfl rfl rfl ⟨rfl, rfl, rfl, rfl, rfl⟩ rfl rfl rfl rfl rfl (by kernel_rfl) Try.func3 (by kernel_rfl)
  (of_decide_eq_true (by kernel_rfl)) (by unfold Func.isWrapper; rw [if_neg (of_decide_eq_false (by kernel_rfl))]; exact ⟨rfl, rfl⟩)
  (fun os started H enc _ => houseSpreads_lifted os started H enc)
#print axioms HouseSpreads_holds
end Go.Proofs.Ytfbbagnpdfafjaa
