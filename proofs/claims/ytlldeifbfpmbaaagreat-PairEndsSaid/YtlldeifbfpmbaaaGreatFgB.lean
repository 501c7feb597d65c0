import Derived.Test.YtlldeifbfpmbaaaGreatFdA
import Derived.Test.YtlldeifbfpmbaaaGreatTb9
set_option maxRecDepth 100000
namespace Go.Proofs.YtlldeifbfpmbaaaGreat
open Go.RowKit Go.Proofs Go.MapKept
theorem rl_gow {P : Program} {f N : Nat} {ops : Array Oper} {o : Oper} {rest : List Oper} {k : List Item} {F : Fr} {w : World} {R : Ending → World → Prop} {j g : Nat} {b : Bool} {Post : Fr → World → Prop} (hg : o.guard = some (j, b)) (hj : (ops[j]?).bind (·.dst) = some g) (hb : Fr.get F g = some (.bool b)) (hw : OpW P N o F w Post)
  (h : ∀ F' w', Post F' w' → RL P f N ops rest k F' w' R) : RL P f N ops (o :: rest) k F w R := by
 intro a ha
 refine wpList_step fun K hK => ?_
 have hw1 : Region.wanted o (yielded ops a.tmps) = true := by simp [Region.wanted, hg, yielded_of ha hj hb]
 rw [if_pos hw1]
 exact hw a ha K _ fun F' a' w' hp ha' => hK _ _ (h F' w' hp a' ha')
theorem itab2 {B : Nat} {w0 w : World} {H : List (Option Blk)} (hO : Own B w0 w H) (k i j : Nat) {ob b1 b2 m : Nat} {T T1 T2 : TypeId} {G G1 G2 : Int → Value} {F : Int → Int → Int} (hk : H[k]? = some (some (vch ob T 2 G))) (hi : H[i]? = some (some (vch b1 T1 m G1))) (hj : H[j]? = some (some (vch b2 T2 m G2)))
  (hG0 : G 0 = .slice (some ⟨b1, 0, none⟩) m m) (hG1 : G 1 = .slice (some ⟨b2, 0, none⟩) m m) (h1 : ∀ c : Int, 0 ≤ c → c < m → G1 c = iv (F 0 c)) (h2 : ∀ c : Int, 0 ≤ c → c < m → G2 c = iv (F 1 c)) : RTab w.heap.size w (some ⟨ob, 0, none⟩) 2 (fun _ => m) F := by
 refine ⟨fun r => if r = 0 then some ⟨b1, 0, none⟩ else some ⟨b2, 0, none⟩, fun _ => m, (hO.readsI k hk).congr fun r r0 r1 => ?_, fun _ _ _ => Nat.le_refl _, fun r r0 r1 => ?_⟩
 ·rcases (show r = 0 ∨ r = 1 by omega) with rfl | rfl
  ·exact hG0
  ·exact hG1
 ·rcases (show r = 0 ∨ r = 1 by omega) with rfl | rfl
  ·show IAt _ _ (if (0 : Int) = 0 then _ else _) _ _
   rw [if_pos rfl]; exact (hO.readsI i hi).congr h1
  ·show IAt _ _ (if (1 : Int) = 0 then _ else _) _ _
   rw [if_neg (by decide)]; exact (hO.readsI j hj).congr h2
theorem two2 {p : Int → Prop} (h0 : p 0) (h1 : p 1) : ∀ g : Int, 0 ≤ g → g < ((2 : Nat) : Int) → p g := two h0 h1
set_option maxHeartbeats 1000000 in
theorem awake5_any (hSort : SortRows) (w : World) : Calls Tryz.prog 15 #[] w fun e w' => e = .returned (.bool true) ∧ Below w.heap.size w w' := by
 refine calls_of_run (F := []) Tryz.func15 rfl Tryz.ntmps15 rfl rfl ?_
 have hO0 := Own.init w
 refine run_seq <| run_region <| rl_v rfl rfl rfl (ov_assign rfl rfl) <| rl_nil <| run_seq <| run_region <| rl_ow rfl (ow_build1 [_, _] rfl rfl rfl rfl rfl Tryz.underlying23 info_3 (by decide) hO0 rfl rfl) ?_
 rintro _ w1 ⟨g1b, rfl, hO2, hs3⟩
 refine rl_ow rfl (ow_build1 [_, _] rfl rfl rfl rfl rfl Tryz.underlying23 info_3 (by decide) hO2 rfl rfl) ?_
 rintro _ w4 ⟨g2b, rfl, hO5, hs6⟩
 refine rl_ow rfl (ow_build1 [_, _] rfl rfl rfl rfl rfl Tryz.underlying22 info_23 (by decide) hO5 rfl rfl) ?_
 rintro _ w7 ⟨gb, rfl, hO8, hs9⟩
 refine rl_ow rfl (ow_build1 [_, _] rfl rfl rfl rfl rfl Tryz.underlying23 info_3 (by decide) hO8 rfl rfl) ?_
 rintro _ w10 ⟨b1b, rfl, hO11, hs12⟩
 refine rl_ow rfl (ow_build1 [_, _] rfl rfl rfl rfl rfl Tryz.underlying23 info_3 (by decide) hO11 rfl rfl) ?_
 rintro _ w13 ⟨b2b, rfl, hO14, hs15⟩
 refine rl_ow rfl (ow_build1 [_, _] rfl rfl rfl rfl rfl Tryz.underlying22 info_23 (by decide) hO14 rfl rfl) ?_
 rintro _ w16 ⟨bb, rfl, hO17, hs18⟩
 refine rl_ow rfl (ow_build1 [_, _] rfl rfl rfl rfl rfl Tryz.underlying23 info_3 (by decide) hO17 rfl rfl) ?_
 rintro _ w19 ⟨qb, rfl, hO20, hs21⟩
 refine rl_v rfl rfl rfl (ov_buildL rfl lay_27 rfl (us := [_, _, _]) rfl) <| rl_ow rfl (ow_alloc _ rfl rfl rfl zero_27 rfl hO20) ?_
 rintro _ w22 ⟨fb, rfl, hO23, hs24⟩
 refine rl_ow rfl (ow_storeW rfl rfl (by kernel_rfl) hO23 0 rfl rfl (by rfl) rfl (by rfl)) ?_
 rintro _ w25 ⟨rfl, hO26, hs27⟩
 refine rl_nil <| run_seq <| run_region <| rl_v rfl rfl rfl (ov_loadW rfl Tryz.underlying27 rfl (by kernel_rfl) rfl hO26 0 rfl) ?_
 refine rl_call callable_11 rfl rfl rfl rfl rfl rfl (growers_any (some ⟨gb, 0, none⟩) (some ⟨bb, 0, none⟩) (some ⟨qb, 0, none⟩) 2 2 2 exF _ exF_valid ⟨(itab2 hO26 5 7 6 rfl rfl rfl rfl rfl (two2 rfl rfl) (two2 rfl rfl)).tab, (itab2 hO26 2 4 3 rfl rfl rfl rfl rfl (two2 rfl rfl) (two2 rfl rfl)).tab, (hO26.readsI 1 rfl).congr (two2 rfl rfl)⟩) (fun e28 w29 hp30 => ?_)
 obtain ⟨oa, l, rfl, hO1, hB⟩ := hp30
 refine ⟨_, rfl, ?_⟩
 have hO31 := hO26.join hO1
 refine rl_v rfl rfl rfl (ov_move rfl rfl) <| rl_v rfl rfl rfl (ov_extract rfl rfl (by rfl)) ?_
 refine rl_v rfl rfl rfl (ov_extract rfl rfl (by rfl)) ?_
 refine rl_v rfl rfl rfl (ov_assign rfl rfl) <| rl_v rfl rfl rfl (ov_assign rfl rfl) <| rl_nil <| run_seq <| run_region <| rl_v rfl rfl rfl (ov_loadW rfl Tryz.underlying27 rfl (by kernel_rfl) rfl hO31 1 rfl) ?_
 refine rl_call callable_12 rfl rfl rfl rfl rfl rfl (brewers_any (some ⟨gb, 0, none⟩) (some ⟨bb, 0, none⟩) (some ⟨qb, 0, none⟩) 2 2 2 exF _ exF_valid ⟨(itab2 hO31 6 8 7 rfl rfl rfl rfl rfl (two2 rfl rfl) (two2 rfl rfl)).tab, (itab2 hO31 3 5 4 rfl rfl rfl rfl rfl (two2 rfl rfl) (two2 rfl rfl)).tab, (hO31.readsI 2 rfl).congr (two2 rfl rfl)⟩) (fun e32 w33 hp34 => ?_)
 obtain ⟨oc, l2, nb, rfl, hO2, hA, hD⟩ := hp34
 refine ⟨_, rfl, ?_⟩
 have hO35 := hO31.join hO2
 refine rl_v rfl rfl rfl (ov_move rfl rfl) <| rl_v rfl rfl rfl (ov_extract rfl rfl (by rfl)) ?_
 refine rl_v rfl rfl rfl (ov_extract rfl rfl (by rfl)) ?_
 refine rl_v rfl rfl rfl (ov_assign rfl rfl) <| rl_v rfl rfl rfl (ov_assign rfl rfl) <| rl_nil <| run_seq <| run_region <| rl_ow rfl (ow_one rfl rfl rfl Tryz.underlying23 info_3 rfl hO35 rfl rfl) ?_
 rintro _ w36 ⟨s1, rfl, hO37, hs38⟩
 refine rl_ow rfl (ow_one rfl rfl rfl Tryz.underlying23 info_3 rfl hO37 rfl rfl) ?_
 rintro _ w39 ⟨s2, rfl, hO40, hs41⟩
 refine rl_ow rfl (ow_build1 [_, _] rfl rfl rfl rfl rfl Tryz.underlying22 info_23 (by decide) hO40 rfl rfl) ?_
 rintro _ w42 ⟨sb, rfl, hO43, hs44⟩
 refine rl_v rfl rfl rfl (ov_buildL rfl lay_63 rfl (us := [_]) rfl) ?_
 refine rl_call callable_46 rfl rfl rfl rfl rfl rfl (core_any hSort (some ⟨sb, 0, none⟩) 2 2 (fun _ => 1) (fun i _ => 1 - i) _ (by decide) exW_swap (itab2 hO43 0 2 1 rfl rfl rfl rfl rfl (fun _ _ _ => rfl) (fun _ _ _ => rfl))) (fun e45 w46 hp47 => ?_)
 obtain ⟨od, o, t, rfl, hO3, hC⟩ := hp47
 refine ⟨_, rfl, ?_⟩
 have hO48 := hO43.join hO3
 refine rl_v rfl rfl rfl (ov_move rfl rfl) <| rl_v rfl rfl rfl (ov_extract rfl rfl (by rfl)) ?_
 refine rl_v rfl rfl rfl (ov_extract rfl rfl (by rfl)) ?_
 refine rl_v rfl rfl rfl (ov_assign rfl rfl) <| rl_v rfl rfl rfl (ov_assign rfl rfl) <| rl_nil <| run_seq <| run_region <| rl_v rfl rfl rfl (ov_move rfl rfl) <| rl_v rfl rfl rfl (ov_eql rfl rfl rfl) <| rl_v rfl rfl rfl (ov_move rfl rfl) <| rl_known 36 rfl (rfl) <| rl_gv rfl rfl rfl rfl rfl (ov_move rfl rfl) <| rl_gv rfl rfl rfl rfl rfl (ov_eql rfl rfl rfl) <| rl_v rfl rfl rfl (ov_pick_t rfl rfl rfl) <| rl_v rfl rfl rfl (ov_move rfl rfl) <| rl_known 40 rfl (rfl) <| rl_gv rfl rfl rfl rfl rfl (ov_move rfl rfl) <| rl_gv rfl rfl rfl rfl rfl (ov_eql rfl rfl rfl) <| rl_v rfl rfl rfl (ov_pick_t rfl rfl rfl) <| rl_v rfl rfl rfl (ov_move rfl rfl) <| rl_known 44 rfl (rfl) <| rl_gv rfl rfl rfl rfl rfl (ov_move rfl rfl) <| rl_gow rfl rfl rfl (ow_build1 [_, _] rfl rfl rfl rfl rfl Tryz.underlying23 info_3 (by decide) hO48 rfl rfl) ?_
 rintro _ w49 ⟨x1, rfl, hO50, hs51⟩
 refine rl_gcall callable_17 rfl rfl rfl rfl rfl rfl rfl rfl (ints5_any (some ⟨oa, 0, none⟩) (some ⟨x1, 0, none⟩) 2 2 2 2 l (fun i => i) _ (by decide) (hO50.readsI 6 rfl) ((hO50.readsI 0 rfl).congr (two2 rfl rfl))) (fun e52 w53 hp54 => ?_)
 obtain ⟨⟨y1, rfl, hy1⟩, hbl1⟩ := hp54
 refine ⟨_, rfl, ?_⟩
 have hO55 := hO50.past hbl1
 have hz1 : y1 = true := hy1.2 ⟨rfl, fun i i0 i1 => exF_best hB i i0 i1⟩
 subst hz1
 refine rl_v rfl rfl rfl (ov_pick_t rfl rfl rfl) <| rl_v rfl rfl rfl (ov_move rfl rfl) ?_
 first | refine rl_yesD 49 rfl (rfl) ?_ | refine rl_yes 49 rfl (rfl) ?_
 refine rl_gv rfl rfl rfl rfl rfl (ov_move rfl rfl) <| rl_gow rfl rfl rfl (ow_build1 [_, _] rfl rfl rfl rfl rfl Tryz.underlying23 info_3 (by decide) hO55 rfl rfl) ?_
 rintro _ w56 ⟨x2, rfl, hO57, hs58⟩
 refine rl_gcall callable_17 rfl rfl rfl rfl rfl rfl rfl rfl (ints5_any (some ⟨oc, 0, none⟩) (some ⟨x2, 0, none⟩) 2 2 2 2 l2 (fun i => 1 - i) _ (by decide) (hO57.readsI 6 rfl) ((hO57.readsI 0 rfl).congr (two2 rfl rfl))) (fun e59 w60 hp61 => ?_)
 obtain ⟨⟨y2, rfl, hy2⟩, hbl2⟩ := hp61
 refine ⟨_, rfl, ?_⟩
 have hO62 := hO57.past hbl2
 have hz2 : y2 = true := hy2.2 ⟨rfl, fun i i0 i1 => exF_worst hA hD i i0 i1⟩
 subst hz2
 refine rl_v rfl rfl rfl (ov_pick_t rfl rfl rfl) <| rl_v rfl rfl rfl (ov_move rfl rfl) ?_
 first | refine rl_yesD 54 rfl (rfl) ?_ | refine rl_yes 54 rfl (rfl) ?_
 refine rl_gv rfl rfl rfl rfl rfl (ov_move rfl rfl) <| rl_gow rfl rfl rfl (ow_build1 [_, _] rfl rfl rfl rfl rfl Tryz.underlying23 info_3 (by decide) hO62 rfl rfl) ?_
 rintro _ w63 ⟨x3, rfl, hO64, hs65⟩
 refine rl_gcall callable_17 rfl rfl rfl rfl rfl rfl rfl rfl (ints5_any (some ⟨od, 0, none⟩) (some ⟨x3, 0, none⟩) 2 2 2 2 o (fun i => 1 - i) _ (by decide) (hO64.readsI 3 rfl) ((hO64.readsI 0 rfl).congr (two2 rfl rfl))) (fun e66 w67 hp68 => ?_)
 obtain ⟨⟨y3, rfl, hy3⟩, hbl3⟩ := hp68
 refine ⟨_, rfl, ?_⟩
 have hO69 := hO64.past hbl3
 have hz3 : y3 = true := hy3.2 ⟨rfl, fun i i0 i1 => exW_cert hC i i0 i1⟩
 subst hz3
 refine rl_v rfl rfl rfl (ov_pick_t rfl rfl rfl) <| rl_v rfl rfl rfl (ov_assign rfl rfl) <| rl_nil <| run_ret Tryz.func15 (res1 Tryz.results15 rfl) ?_
 exact ⟨rfl, hO69.below⟩
end Go.Proofs.YtlldeifbfpmbaaaGreat
set_option maxRecDepth 100000
namespace Go.Proofs.YtlldeifbfpmbaaaGreat
open Go.RowKit Go.Proofs Go.MapKept
theorem lists5_any (ao : Option Addr) (n c most long : Nat) (L : Int → Nat) (F : Int → Int → Int) (w : World) (hm : most ≤ 1000) (hl : long ≤ 1000) (h : RTab w.heap.size w ao n L F) :
  Calls Tryz.prog 38 #[.slice ao n c, iv most, iv long] w fun e w' => ∃ v cv H, e = .returned (.slice v (min n most) cv) ∧ min n most ≤ cv ∧ OTab (.slice v (min n most) cv) 23 3 (min n most) (fun r => min (L r) long) (fun r c => iv (F r c)) H ∧ Own w.heap.size w w' H := by
 obtain ⟨A, C, h1, hroom, hcan⟩ := h
 obtain ⟨gb, go, hga, hrow⟩ := h1.open
 refine calls_of_run (F := [(0, _), (1, _), (2, _)]) Tryz.func38 rfl Tryz.ntmps38 rfl rfl ?_
 have hO0 := Own.init w
 refine run_seq <| run_region <| rl_v rfl rfl rfl (ov_assign rfl rfl) <| rl_nil <| run_seq <| run_region <| rl_v rfl rfl rfl (ov_assign rfl rfl) <| rl_nil <| run_seq <| run_seq <| run_region <| rl_v rfl rfl rfl (ov_assign rfl rfl) <| rl_nil <| run_block <| Run.keep [0, 1, 2, 7, 8] (F' := [(0, _), (1, _), (2, _), (7, _), (8, _)]) rfl <| run_loop4 (fun (i : Int) (q : Nat) (v : Option Addr) (cq : Nat) => [(8, .int .i64 i), (7, .slice v q cq)]) [0, 1, 2] (fun (i : Int) (q : Nat) (v : Option Addr) (cq : Nat) (w1 : World) => i = q ∧ q ≤ min n most ∧ ∃ Hm : List (Option Blk), OTab (.slice v q cq) 23 3 q (fun r => min (L r) long) (fun r c => iv (F r c)) Hm ∧ q ≤ cq ∧ Own w.heap.size w w1 Hm) (fun (i : Int) (q : Nat) (v : Option Addr) (cq : Nat) => min n most - q) (0) (0) (none) (0) ?_ (And.intro (by exact slot_int rfl (by first | omega)) (And.intro rfl (And.intro rfl (And.intro rfl (And.intro rfl trivial))))) ?_
 ·exact ⟨rfl, by omega, [none], OTab.nil _ _ _ _, Nat.le_refl 0, hO0.nil_cons⟩
 intro i q v cq w1 hIw1 ih2
 obtain ⟨hiq, hqm, Hm, hTb, hcq, hO⟩ := hIw1
 show Run _ _ _ _ [(8, _), (7, _), (0, _), (1, _), (2, _)] _ _
 refine run_seq <| run_seq <| run_region_join 18 (.bool (decide (i < min n most))) [0, 1, 2, 7, 8] (fun hk3 => ?_) ?_
 ·refine rl_v rfl rfl rfl (ov_move rfl rfl) <| rl_v rfl rfl rfl (ov_move rfl rfl) <| rl_v rfl rfl rfl (ov_len rfl Tryz.underlying22 rfl) <| rl_v rfl rfl rfl (ov_lss rfl rfl rfl) <| rl_v rfl rfl rfl (ov_move rfl rfl) ?_
  first | refine rl_split_dec 14 rfl (fun hg4 => ?_) (fun hg4 => ?_) | refine rl_split 14 rfl (fun hg4 => ?_) (fun hg4 => ?_)
  ·refine rl_gv rfl rfl rfl rfl rfl (ov_move rfl rfl) <| rl_gv rfl rfl rfl rfl rfl (ov_move rfl rfl) <| rl_gv rfl rfl rfl rfl rfl (ov_lss rfl rfl rfl) <| rl_v rfl rfl rfl (ov_pick_t rfl rfl rfl) ?_
   refine rl_nil (hk3 _ (jbd rfl (by omega)) (And.intro rfl (And.intro rfl (And.intro rfl (And.intro rfl (And.intro rfl trivial))))))
  ·refine rl_gskip rfl rfl rfl rfl rfl rfl <| rl_gskip rfl rfl rfl rfl rfl rfl <| rl_gskip rfl rfl rfl rfl rfl rfl <| rl_v rfl rfl rfl (ov_pick_f rfl rfl rfl) ?_
   refine rl_nil (hk3 _ (jbf rfl (by omega)) (And.intro rfl (And.intro rfl (And.intro rfl (And.intro rfl (And.intro rfl trivial))))))
 ·show Run _ _ _ _ [(18, _), (0, _), (1, _), (2, _), (7, _), (8, _)] _ _
  first | refine run_cond_dec rfl (fun c1 => ?_) (fun c1 => ?_) | refine run_cond rfl (fun c1 => ?_) (fun c1 => ?_)
  ·have hi0 : 0 ≤ i := by omega
   have hLi := hroom i hi0 (by omega)
   have hOn := hO.nil_cons
   refine run_skip <| run_seq <| run_block <| run_seq <| run_region <| rl_v rfl rfl rfl (ov_assign rfl rfl) <| rl_nil <| run_seq <| run_tail 13 mixed (by kernel_rfl) ?_
   have hO6 := hOn.drew
   generalize World.drew w1 = w5 at hO6 ⊢
   refine rt_v rfl rfl rfl (ov_move rfl rfl) <| rt_v rfl rfl rfl (ov_move rfl rfl) <| rt_v rfl rfl rfl (ov_move rfl rfl) <| rt_v rfl rfl rfl (ov_index1 rfl Tryz.underlying22 (by kernel_rfl) rfl rfl ⟨by omega, by omega⟩ (by exact hga (by omega))) ?_
   refine rt_v rfl rfl rfl (ov_load rfl Tryz.underlying23 rfl rfl (by exact hrow _ hO6.below _ (by omega) (by omega))) ?_
   refine rt_v rfl rfl rfl (ov_move rfl rfl) <| rt_v rfl rfl rfl (ov_move rfl rfl) <| rt_v rfl rfl rfl (ov_index1 rfl Tryz.underlying22 (by kernel_rfl) rfl rfl ⟨by omega, by omega⟩ (by exact hga (by omega))) ?_
   refine rt_v rfl rfl rfl (ov_load rfl Tryz.underlying23 rfl rfl (by exact hrow _ hO6.below _ (by omega) (by omega))) ?_
   refine rt_v rfl rfl rfl (ov_len rfl Tryz.underlying23 rfl) <| rt_v rfl rfl rfl (ov_move rfl rfl) <| rt_v rfl rfl rfl (ov_min rfl rfl rfl) <| rt_v rfl rfl rfl (ov_sliceH (min (L i) long) (s := 1) rfl Tryz.underlying23 (by kernel_rfl) rfl rfl (by omega) (by omega)) ?_
   refine rt_nil <| rl_ow rfl (ow_appS rfl rfl rfl Tryz.underlying23 info_3 rfl hO6 0 (IRow.nil 3 (fun _ => iv 0)) rfl rfl rfl (((hO6.iatF (hcan i hi0 (by omega))).take (by omega))) (fun _ => rfl) ⟨by omega, by omega⟩) ?_
   rintro _ w7 ⟨v34, c34, rfl, hO8, hr34, hs9⟩
   obtain ⟨a34, cp34, rfl⟩ := hr34.val
   obtain ⟨co, rv, ch, rfl, hv, h3t⟩ := hTb
   refine rl_v rfl rfl rfl (ov_assign rfl rfl) <| rl_nil <| run_region <| rl_v rfl rfl rfl (ov_move rfl rfl) <| rl_v rfl rfl rfl (ov_move rfl rfl) ?_
   refine rl_appV rfl rfl rfl rfl rfl rfl rfl rfl Tryz.underlying22 info_23 rfl hO8 1 hv rfl rfl rfl rfl ⟨by omega, by omega⟩ (fun v38 c38 w10 hO11 hv38 hs12 => ?_)
   obtain ⟨a38, cp38, rfl⟩ := hv38.val
   have hcp38 := hv38.capF
   have hO6 : Own w.heap.size w w10 (c34 :: c38 :: ((List.range q).map ch ++ [])) := by rw [List.append_nil]; exact hO11
   obtain ⟨H', hT', hO8⟩ := OTab.snoc (L := fun r => min (L r) long) (F := fun r c => iv (F r c)) h3t hr34 hv38 hO6 (by rw [← hiq, Nat.zero_add]) (fun j _ _ => by unfold joinF; rw [if_neg (by omega), ← hiq]; exact congrArg (fun k => iv (F i k)) (by omega))
   refine rl_v rfl rfl rfl (ov_assign rfl rfl) <| rl_nil <| run_inBlock <| run_region <| rl_v rfl rfl rfl (ov_move rfl rfl) <| rl_v rfl rfl rfl (ov_add rfl rfl rfl (by omega)) ?_
   refine rl_v rfl rfl rfl (ov_assign rfl rfl) <| rl_nil ?_
   refine Run.use (ih2 (i + 1) (q + 1) (a38) (cp38) _ ?_ ?_) (And.intro (by exact slot_int rfl (by first | omega)) (And.intro rfl (And.intro rfl (And.intro rfl (And.intro rfl trivial)))))
   ·first | omega | (dsimp only; omega)
   ·exact ⟨by omega, by omega, H', hT', hcp38, by rw [List.append_nil] at hO8; exact hO8⟩
  ·obtain rfl : q = min n most := by omega
   refine run_exit rfl <| run_seq <| run_region <| rl_v rfl rfl rfl (ov_move rfl rfl) <| rl_v rfl rfl rfl (ov_assign rfl rfl) <| rl_nil <| run_ret Tryz.func38 (res1 Tryz.results38 rfl) ?_
   exact ⟨v, cq, Hm, rfl, hcq, hTb, hO⟩
end Go.Proofs.YtlldeifbfpmbaaaGreat
