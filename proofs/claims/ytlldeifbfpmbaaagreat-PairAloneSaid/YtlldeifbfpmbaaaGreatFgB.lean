import Derived.Test.YtlldeifbfpmbaaaGreatFgA
import Derived.Test.YtlldeifbfpmbaaaGreatFcH
import Derived.Test.YtlldeifbfpmbaaaGreatFdB
set_option maxRecDepth 100000
namespace Go.Proofs.YtlldeifbfpmbaaaGreat
open Go.RowKit Go.Proofs Go.MapKept
theorem lists5_any (ao : Option Addr) (n c most long : Nat) (L : Int → Nat) (F : Int → Int → Int) (w : World) (hm : most ≤ 1000) (hl : long ≤ 1000) (h : RTab w.heap.size w ao n L F) :
  Calls Tryz.prog 38 #[.slice ao n c, iv most, iv long] w fun e w' => ∃ v cv H, e = .returned (.slice v (min n most) cv) ∧ min n most ≤ cv ∧ OTab (.slice v (min n most) cv) 23 3 (min n most) (fun r => min (L r) long) (fun r c => iv (F r c)) H ∧ Own w.heap.size w w' H := by
 obtain ⟨A, C, h1, hroom, hcan⟩ := h
 obtain ⟨gb, go, hga, hrow⟩ := h1.open
 refine calls_of_run (F := [(0, _), (1, _), (2, _)]) Tryz.func38 rfl Tryz.ntmps38 rfl rfl ?_
 have hO0 := Own.init w
 refine run_seq <| run_region <| rl_v rfl rfl rfl (ov_assign rfl rfl) <| rl_nil <| run_seq <| run_region <| rl_v rfl rfl rfl (ov_assign rfl rfl) <| rl_nil <| run_seq <| run_seq <| run_region <| rl_v rfl rfl rfl (ov_assign rfl rfl) <| rl_nil <| run_block <| Run.keep [0, 1, 2, 7, 8] (F' := [(0, _), (1, _), (2, _), (7, _), (8, _)]) rfl <| run_loop4 (fun (i : Int) (q : Nat) (v : Option Addr) (cq : Nat) => [(8, .int .i64 i), (7, .slice v q cq)]) [0, 1, 2] (fun (i : Int) (q : Nat) (v : Option Addr) (cq : Nat) (w1 : World) => i = q ∧ q ≤ min n most ∧ ∃ Hm : List (Option Blk), OTab (.slice v q cq) 23 3 q (fun r => min (L r) long) (fun r c => iv (F r c)) Hm ∧ q ≤ cq ∧ Own w.heap.size w w1 Hm) (fun (i : Int) (q : Nat) (v : Option Addr) (cq : Nat) => min n most - q) (0) (0) (none) (0) ?_ (And.intro (by exact slot_int rfl (by first | omega)) (And.intro rfl (And.intro rfl (And.intro rfl (And.intro rfl trivial))))) ?_
 ·exact ⟨rfl, by omega, [none], OTab.nil _ _ _ _, Nat.le_refl 0, hO0.nil_cons⟩
 intro i q v cq w1 hIw1 ih2
 obtain ⟨hiq, hqm, Hm, hTb, hcq, hO⟩ := hIw1
 show Run _ _ _ _ [(8, _), (7, _), (0, _), (1, _), (2, _)] _ _
 refine run_seq <| run_seq <| run_region_join 18 (.bool (decide (i < min n most))) [0, 1, 2, 7, 8] (fun hk3 => ?_) ?_
 ·refine rl_v rfl rfl rfl (ov_move rfl rfl) <| rl_v rfl rfl rfl (ov_move rfl rfl) <| rl_v rfl rfl rfl (ov_len rfl Tryz.underlying22 rfl) <| rl_v rfl rfl rfl (ov_lss rfl rfl rfl) <| rl_v rfl rfl rfl (ov_move rfl rfl) ?_
  first | refine rl_split_dec 14 rfl (fun hg4 => ?_) (fun hg4 => ?_) | refine rl_split 14 rfl (fun hg4 => ?_) (fun hg4 => ?_)
  ·refine rl_gv rfl rfl rfl rfl rfl (ov_move rfl rfl) <| rl_gv rfl rfl rfl rfl rfl (ov_move rfl rfl) <| rl_gv rfl rfl rfl rfl rfl (ov_lss rfl rfl rfl) <| rl_v rfl rfl rfl (ov_pick_t rfl rfl rfl) ?_
   refine rl_nil (hk3 _ (jbd rfl (by omega)) (And.intro rfl (And.intro rfl (And.intro rfl (And.intro rfl (And.intro rfl trivial))))))
  ·refine rl_gskip rfl rfl rfl rfl rfl rfl <| rl_gskip rfl rfl rfl rfl rfl rfl <| rl_gskip rfl rfl rfl rfl rfl rfl <| rl_v rfl rfl rfl (ov_pick_f rfl rfl rfl) ?_
   refine rl_nil (hk3 _ (jbf rfl (by omega)) (And.intro rfl (And.intro rfl (And.intro rfl (And.intro rfl (And.intro rfl trivial))))))
 ·show Run _ _ _ _ [(18, _), (0, _), (1, _), (2, _), (7, _), (8, _)] _ _
  first | refine run_cond_dec rfl (fun c1 => ?_) (fun c1 => ?_) | refine run_cond rfl (fun c1 => ?_) (fun c1 => ?_)
  ·have hi0 : 0 ≤ i := by omega
   have hLi := hroom i hi0 (by omega)
   have hOn := hO.nil_cons
   refine run_skip <| run_seq <| run_block <| run_seq <| run_region <| rl_v rfl rfl rfl (ov_assign rfl rfl) <| rl_nil <| run_seq <| run_tail 13 mixed (by kernel_rfl) ?_
   have hO6 := hOn.drew
   generalize World.drew w1 = w5 at hO6 ⊢
   refine rt_v rfl rfl rfl (ov_move rfl rfl) <| rt_v rfl rfl rfl (ov_move rfl rfl) <| rt_v rfl rfl rfl (ov_move rfl rfl) <| rt_v rfl rfl rfl (ov_index1 rfl Tryz.underlying22 (by kernel_rfl) rfl rfl ⟨by omega, by omega⟩ (by exact hga (by omega))) ?_
   refine rt_v rfl rfl rfl (ov_load rfl Tryz.underlying23 rfl rfl (by exact hrow _ hO6.below _ (by omega) (by omega))) ?_
   refine rt_v rfl rfl rfl (ov_move rfl rfl) <| rt_v rfl rfl rfl (ov_move rfl rfl) <| rt_v rfl rfl rfl (ov_index1 rfl Tryz.underlying22 (by kernel_rfl) rfl rfl ⟨by omega, by omega⟩ (by exact hga (by omega))) ?_
   refine rt_v rfl rfl rfl (ov_load rfl Tryz.underlying23 rfl rfl (by exact hrow _ hO6.below _ (by omega) (by omega))) ?_
   refine rt_v rfl rfl rfl (ov_len rfl Tryz.underlying23 rfl) <| rt_v rfl rfl rfl (ov_move rfl rfl) <| rt_v rfl rfl rfl (ov_min rfl rfl rfl) <| rt_v rfl rfl rfl (ov_sliceH (min (L i) long) (s := 1) rfl Tryz.underlying23 (by kernel_rfl) rfl rfl (by omega) (by omega)) ?_
   refine rt_nil <| rl_ow rfl (ow_appS rfl rfl rfl Tryz.underlying23 info_3 rfl hO6 0 (IRow.nil 3 (fun _ => iv 0)) rfl rfl rfl (((hO6.iatF (hcan i hi0 (by omega))).take (by omega))) (fun _ => rfl) ⟨by omega, by omega⟩) ?_
   rintro _ w7 ⟨v34, c34, rfl, hO8, hr34, hs9⟩
   obtain ⟨a34, cp34, rfl⟩ := hr34.val
   obtain ⟨co, rv, ch, rfl, hv, h3t⟩ := hTb
   refine rl_v rfl rfl rfl (ov_assign rfl rfl) <| rl_nil <| run_region <| rl_v rfl rfl rfl (ov_move rfl rfl) <| rl_v rfl rfl rfl (ov_move rfl rfl) ?_
   refine rl_appV rfl rfl rfl rfl rfl rfl rfl rfl Tryz.underlying22 info_23 rfl hO8 1 hv rfl rfl rfl rfl ⟨by omega, by omega⟩ (fun v38 c38 w10 hO11 hv38 hs12 => ?_)
   obtain ⟨a38, cp38, rfl⟩ := hv38.val
   have hcp38 := hv38.capF
   have hO6 : Own w.heap.size w w10 (c34 :: c38 :: ((List.range q).map ch ++ [])) := by rw [List.append_nil]; exact hO11
   obtain ⟨H', hT', hO8⟩ := OTab.snoc (L := fun r => min (L r) long) (F := fun r c => iv (F r c)) h3t hr34 hv38 hO6 (by rw [← hiq, Nat.zero_add]) (fun j _ _ => by unfold joinF; rw [if_neg (by omega), ← hiq]; exact congrArg (fun k => iv (F i k)) (by omega))
   refine rl_v rfl rfl rfl (ov_assign rfl rfl) <| rl_nil <| run_inBlock <| run_region <| rl_v rfl rfl rfl (ov_move rfl rfl) <| rl_v rfl rfl rfl (ov_add rfl rfl rfl (by omega)) ?_
   refine rl_v rfl rfl rfl (ov_assign rfl rfl) <| rl_nil ?_
   refine Run.use (ih2 (i + 1) (q + 1) (a38) (cp38) _ ?_ ?_) (And.intro (by exact slot_int rfl (by first | omega)) (And.intro rfl (And.intro rfl (And.intro rfl (And.intro rfl trivial)))))
   ·first | omega | (dsimp only; omega)
   ·exact ⟨by omega, by omega, H', hT', hcp38, by rw [List.append_nil] at hO8; exact hO8⟩
  ·obtain rfl : q = min n most := by omega
   refine run_exit rfl <| run_seq <| run_region <| rl_v rfl rfl rfl (ov_move rfl rfl) <| rl_v rfl rfl rfl (ov_assign rfl rfl) <| rl_nil <| run_ret Tryz.func38 (res1 Tryz.results38 rfl) ?_
   exact ⟨v, cq, Hm, rfl, hcq, hTb, hO⟩
end Go.Proofs.YtlldeifbfpmbaaaGreat
