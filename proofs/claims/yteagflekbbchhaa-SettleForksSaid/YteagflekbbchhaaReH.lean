import Derived.Test.YteagflekbbchhaaReG
set_option maxRecDepth 100000
namespace Go.Proofs.Yteagflekbbchhaa
open Go.RowKit Go.Proofs
def ROut (B : Nat) (w0 w : World) (v : Value) (X : MW) (N H : List (Option Blk)) : Prop := ∃ K N', v = rwv X K ∧ Own B w0 w (N' ++ H) ∧ XIn (N' ++ N) X K
theorem RWt.out {B : Nat} {w0 w : World} {v : Value} {X : MW} {N H : List (Option Blk)} (h : RWt B w0 w v X N H) : ROut B w0 w v X N H := by
 obtain ⟨K, rfl, hO, hK⟩ := h
 exact ⟨K, K.M, rfl, hO.perm List.perm_append_comm, hK.xin.mono fun x hx => (List.mem_append.1 hx).elim (fun h => List.mem_append_right _ h) (fun h => List.mem_append_left _ h)⟩
theorem ROut.same {B : Nat} {w0 w : World} {X : MW} {K : RK} {N H : List (Option Blk)} (hK : XIn N X K) (hO : Own B w0 w H) : ROut B w0 w (rwv X K) X N H := ⟨K, [], rfl, hO, hK⟩
theorem dropAt_le (X : MW) (i : Nat) : (X.dropAt i).bag.length ≤ X.bag.length := by unfold MW.dropAt; simp; omega
theorem rdeliver_any (X : MW) (K : RK) (i : Int) (B : Nat) (N H : List (Option Blk)) (w0 w : World) (hG : Good X) (hL : LInv X) (hb : X.bag.length + 5 < 4000000000000) (hO : Own B w0 w H) (hN : ∀ x ∈ N, x ∈ H) (hK : XIn N X K) :
  Calls Try.prog 63 #[rwv X K, iv i] w fun e w' => ∃ v', e = .returned (.tuple #[v', iv (if 0 ≤ i ∧ i < X.bag.length then 0 else 4)]) ∧ ROut B w0 w' v' (if 0 ≤ i ∧ i < X.bag.length then X.deliver i.toNat else X) N H := by
 refine calls_of_run (F := [(0, _), (1, _)]) Try.func63 rfl Try.ntmps63 rfl rfl <| run_seq <| run_region <| rl_ow rfl (ow_box _ rfl rfl rfl rfl rfl hO) ?_
 rintro _ w1 ⟨b2, rfl, hO2, hs3⟩
 refine rl_ow rfl (ow_alloc _ rfl rfl rfl zero_69 rfl hO2) ?_
 rintro _ w4 ⟨b4, rfl, hO5, hs6⟩
 refine rl_v rfl rfl rfl (ov_assign rfl rfl) <| rl_nil <| run_seq <| run_seq <| run_region_join 16 (.bool (decide ((i < 0 ∨ (X.bag.length : Int) ≤ i)))) [1, 2, 4] (fun hk7 => ?_) ?_
 ·refine rl_v rfl rfl rfl (ov_move rfl rfl) <| rl_v rfl rfl rfl (ov_lss rfl rfl rfl) <| rl_v rfl rfl rfl (ov_move rfl rfl) ?_
  first | refine rl_split_dec 10 rfl (fun hg8 => ?_) (fun hg8 => ?_) | refine rl_split 10 rfl (fun hg8 => ?_) (fun hg8 => ?_)
  ·refine rl_gskip rfl rfl rfl rfl rfl rfl <| rl_gskip rfl rfl rfl rfl rfl rfl <| rl_gskip rfl rfl rfl rfl rfl rfl <| rl_gskip rfl rfl rfl rfl rfl rfl <| rl_gskip rfl rfl rfl rfl rfl rfl <| rl_v rfl rfl rfl (ov_pick_t rfl rfl rfl) ?_
   refine rl_nil (hk7 _ (jbt rfl (by omega)) (And.intro rfl (And.intro rfl (And.intro rfl trivial))))
  ·refine rl_gv rfl rfl rfl rfl rfl (ov_move rfl rfl) <| rl_gv rfl rfl rfl rfl rfl (ov_fieldS rfl Try.underlying69 rfl (fo := 6) rfl (by kernel_rfl) rfl) ?_
   refine rl_gv rfl rfl rfl rfl rfl (ov_load rfl Try.underlying63 rfl rfl (by exact hO5.cellL 1 rfl rfl)) ?_
   refine rl_gv rfl rfl rfl rfl rfl (ov_len rfl Try.underlying63 rfl) <| rl_gv rfl rfl rfl rfl rfl (ov_geq rfl rfl rfl) <| rl_v rfl rfl rfl (ov_pick_f rfl rfl rfl) ?_
   refine rl_nil (hk7 _ (jbd rfl (by omega)) (And.intro rfl (And.intro rfl (And.intro rfl trivial))))
 ·show Run _ _ _ _ [(16, _), (1, _), (2, _), (4, _)] _ _
  first | refine run_cond_dec rfl (fun c1 => ?_) (fun c2 => ?_) | refine run_cond rfl (fun c1 => ?_) (fun c2 => ?_)
  ·refine run_seq <| run_region <| rl_v rfl rfl rfl (ov_loadW rfl Try.underlying69 rfl (by kernel_rfl) rfl hO5 1 rfl) ?_
   refine rl_ow rfl (ow_storeW rfl rfl (by kernel_rfl) hO5 0 rfl rfl (by rfl) rfl (by rfl)) ?_
   rintro _ w9 ⟨rfl, hO10, hs11⟩
   refine rl_v rfl rfl rfl (ov_assign rfl rfl) <| rl_nil <| run_ret Try.func63 (resW2 Try.results63 rfl rfl Try.underlying69 rfl (by kernel_rfl) hO10 0 rfl) ?_
   exact ⟨_, by rw [if_neg (show ¬ (0 ≤ i ∧ i < X.bag.length) by omega)], by rw [if_neg (show ¬ (0 ≤ i ∧ i < X.bag.length) by omega)]; exact .same hK hO10.tail.tail⟩
  ·have hi : 0 ≤ i ∧ i < X.bag.length := by omega
   refine run_skip <| run_seq <| run_region <| rl_v rfl rfl rfl (ov_loadW rfl Try.underlying69 rfl (by kernel_rfl) rfl hO5 1 rfl) ?_
   refine rl_call callable_80 rfl rfl rfl rfl rfl rfl (rfork_any X K B N _ w0 w4 hG (by omega) hO5 (mem_c1 (mem_c1 hN)) hK) (fun e12 w13 hp14 => ?_)
   obtain ⟨v20, rfl, hR⟩ := hp14
   refine ⟨_, rfl, ?_⟩
   refine rl_v rfl rfl rfl (ov_move rfl rfl) ?_
   refine rl_call callable_82 rfl rfl rfl rfl rfl rfl (rtake_any X i _ B N _ w0 w13 hi (by omega) hR) (fun e15 w16 hp17 => ?_)
   obtain ⟨v22, rfl, K2, rfl, hO2, hK2⟩ := hp17
   refine ⟨_, rfl, ?_⟩
   refine rl_v rfl rfl rfl (ov_move rfl rfl) <| rl_v rfl rfl rfl (ov_extract rfl rfl (by rfl)) ?_
   refine rl_v rfl rfl rfl (ov_extract rfl rfl (by rfl)) ?_
   refine rl_ow rfl (ow_alloc _ rfl rfl rfl zero_69 rfl hO2) ?_
   rintro _ w18 ⟨b6, rfl, hO19, hs20⟩
   refine rl_ow rfl (ow_alloc _ rfl rfl rfl zero_136 rfl hO19) ?_
   rintro _ w21 ⟨b7, rfl, hO22, hs23⟩
   refine rl_ow rfl (ow_storeW rfl rfl (by kernel_rfl) hO22 1 rfl rfl (by rfl) rfl (by rfl)) ?_
   rintro _ w24 ⟨rfl, hO25, hs26⟩
   refine rl_ow rfl (ow_storeW rfl rfl (by kernel_rfl) hO25 0 rfl rfl (by rfl) rfl (by rfl)) ?_
   rintro _ w27 ⟨rfl, hO28, hs29⟩
   refine rl_nil <| run_seq <| run_region <| rl_v rfl rfl rfl (ov_loadW rfl Try.underlying69 rfl (by kernel_rfl) rfl hO28 1 rfl) ?_
   refine rl_v rfl rfl rfl (ov_loadW rfl Try.underlying136 rfl (by kernel_rfl) rfl hO28 0 rfl) ?_
   refine rl_call callable_83 rfl rfl rfl rfl rfl rfl (rbring_any (X.dropAt i.toNat) (X.bag.getD i.toNat Ms.z) _ B N _ w0 w27 (hG.dropAt _) (hL.bag _) (hG.bg _ (getD_bag hi)) (Nat.lt_of_le_of_lt (Nat.add_le_add_right (dropAt_le X i.toNat) 5) hb) (mem_c1 (mem_c1 (mem_c1 (mem_c1 hN)))) (RWt.of4 hO28 hK2)) (fun e30 w31 hp32 => ?_)
   obtain ⟨v27, rfl, K3, rfl, hO3, hK3⟩ := hp32
   refine ⟨_, rfl, ?_⟩
   refine rl_ow rfl (ow_storeW rfl rfl (by kernel_rfl) hO3 2 rfl rfl (by rfl) rfl (by rfl)) ?_
   rintro _ w33 ⟨rfl, hO34, hs35⟩
   refine rl_v rfl rfl rfl (ov_assign rfl rfl) <| rl_nil <| run_ret Try.func63 (resW2 Try.results63 rfl rfl Try.underlying69 rfl (by kernel_rfl) hO34 2 rfl) ?_
   exact ⟨_, by rw [if_pos hi], by rw [if_pos hi]; exact RWt.out ⟨K3, rfl, hO34.tail.tail.tail.tail, hK3⟩⟩
theorem rlose_any (X : MW) (K : RK) (i : Int) (B : Nat) (N H : List (Option Blk)) (w0 w : World) (hG : Good X) (hb : X.bag.length + 5 < 4000000000000) (hO : Own B w0 w H) (hN : ∀ x ∈ N, x ∈ H) (hK : XIn N X K) :
  Calls Try.prog 64 #[rwv X K, iv i] w fun e w' => ∃ v', e = .returned (.tuple #[v', iv (if 0 ≤ i ∧ i < X.bag.length then 0 else 4)]) ∧ ROut B w0 w' v' (if 0 ≤ i ∧ i < X.bag.length then X.dropAt i.toNat else X) N H := by
 refine calls_of_run (F := [(0, _), (1, _)]) Try.func64 rfl Try.ntmps64 rfl rfl <| run_seq <| run_region <| rl_ow rfl (ow_box _ rfl rfl rfl rfl rfl hO) ?_
 rintro _ w1 ⟨b2, rfl, hO2, hs3⟩
 refine rl_ow rfl (ow_alloc _ rfl rfl rfl zero_69 rfl hO2) ?_
 rintro _ w4 ⟨b4, rfl, hO5, hs6⟩
 refine rl_v rfl rfl rfl (ov_assign rfl rfl) <| rl_nil <| run_seq <| run_seq <| run_region_join 16 (.bool (decide ((i < 0 ∨ (X.bag.length : Int) ≤ i)))) [1, 2, 4] (fun hk7 => ?_) ?_
 ·refine rl_v rfl rfl rfl (ov_move rfl rfl) <| rl_v rfl rfl rfl (ov_lss rfl rfl rfl) <| rl_v rfl rfl rfl (ov_move rfl rfl) ?_
  first | refine rl_split_dec 10 rfl (fun hg8 => ?_) (fun hg8 => ?_) | refine rl_split 10 rfl (fun hg8 => ?_) (fun hg8 => ?_)
  ·refine rl_gskip rfl rfl rfl rfl rfl rfl <| rl_gskip rfl rfl rfl rfl rfl rfl <| rl_gskip rfl rfl rfl rfl rfl rfl <| rl_gskip rfl rfl rfl rfl rfl rfl <| rl_gskip rfl rfl rfl rfl rfl rfl <| rl_v rfl rfl rfl (ov_pick_t rfl rfl rfl) ?_
   refine rl_nil (hk7 _ (jbt rfl (by omega)) (And.intro rfl (And.intro rfl (And.intro rfl trivial))))
  ·refine rl_gv rfl rfl rfl rfl rfl (ov_move rfl rfl) <| rl_gv rfl rfl rfl rfl rfl (ov_fieldS rfl Try.underlying69 rfl (fo := 6) rfl (by kernel_rfl) rfl) ?_
   refine rl_gv rfl rfl rfl rfl rfl (ov_load rfl Try.underlying63 rfl rfl (by exact hO5.cellL 1 rfl rfl)) ?_
   refine rl_gv rfl rfl rfl rfl rfl (ov_len rfl Try.underlying63 rfl) <| rl_gv rfl rfl rfl rfl rfl (ov_geq rfl rfl rfl) <| rl_v rfl rfl rfl (ov_pick_f rfl rfl rfl) ?_
   refine rl_nil (hk7 _ (jbd rfl (by omega)) (And.intro rfl (And.intro rfl (And.intro rfl trivial))))
 ·show Run _ _ _ _ [(16, _), (1, _), (2, _), (4, _)] _ _
  first | refine run_cond_dec rfl (fun c1 => ?_) (fun c2 => ?_) | refine run_cond rfl (fun c1 => ?_) (fun c2 => ?_)
  ·refine run_seq <| run_region <| rl_v rfl rfl rfl (ov_loadW rfl Try.underlying69 rfl (by kernel_rfl) rfl hO5 1 rfl) ?_
   refine rl_ow rfl (ow_storeW rfl rfl (by kernel_rfl) hO5 0 rfl rfl (by rfl) rfl (by rfl)) ?_
   rintro _ w9 ⟨rfl, hO10, hs11⟩
   refine rl_v rfl rfl rfl (ov_assign rfl rfl) <| rl_nil <| run_ret Try.func64 (resW2 Try.results64 rfl rfl Try.underlying69 rfl (by kernel_rfl) hO10 0 rfl) ?_
   exact ⟨_, by rw [if_neg (show ¬ (0 ≤ i ∧ i < X.bag.length) by omega)], by rw [if_neg (show ¬ (0 ≤ i ∧ i < X.bag.length) by omega)]; exact .same hK hO10.tail.tail⟩
  ·have hi : 0 ≤ i ∧ i < X.bag.length := by omega
   refine run_skip <| run_seq <| run_region <| rl_v rfl rfl rfl (ov_loadW rfl Try.underlying69 rfl (by kernel_rfl) rfl hO5 1 rfl) ?_
   refine rl_call callable_80 rfl rfl rfl rfl rfl rfl (rfork_any X K B N _ w0 w4 hG (by omega) hO5 (mem_c1 (mem_c1 hN)) hK) (fun e12 w13 hp14 => ?_)
   obtain ⟨v20, rfl, hR⟩ := hp14
   refine ⟨_, rfl, ?_⟩
   refine rl_v rfl rfl rfl (ov_move rfl rfl) ?_
   refine rl_call callable_82 rfl rfl rfl rfl rfl rfl (rtake_any X i _ B N _ w0 w13 hi (by omega) hR) (fun e15 w16 hp17 => ?_)
   obtain ⟨v22, rfl, K2, rfl, hO2, hK2⟩ := hp17
   refine ⟨_, rfl, ?_⟩
   refine rl_v rfl rfl rfl (ov_move rfl rfl) <| rl_v rfl rfl rfl (ov_extract rfl rfl (by rfl)) ?_
   refine rl_v rfl rfl rfl (ov_extract rfl rfl (by rfl)) ?_
   refine rl_ow rfl (ow_alloc _ rfl rfl rfl zero_69 rfl hO2) ?_
   rintro _ w18 ⟨b6, rfl, hO19, hs20⟩
   refine rl_ow rfl (ow_alloc _ rfl rfl rfl zero_136 rfl hO19) ?_
   rintro _ w21 ⟨b7, rfl, hO22, hs23⟩
   refine rl_ow rfl (ow_storeW rfl rfl (by kernel_rfl) hO22 1 rfl rfl (by rfl) rfl (by rfl)) ?_
   rintro _ w24 ⟨rfl, hO25, hs26⟩
   refine rl_ow rfl (ow_storeW rfl rfl (by kernel_rfl) hO25 0 rfl rfl (by rfl) rfl (by rfl)) ?_
   rintro _ w27 ⟨rfl, hO28, hs29⟩
   refine rl_nil <| run_seq <| run_region <| rl_v rfl rfl rfl (ov_loadW rfl Try.underlying69 rfl (by kernel_rfl) rfl hO28 1 rfl) ?_
   refine rl_ow rfl (ow_storeW rfl rfl (by kernel_rfl) hO28 2 rfl rfl (by rfl) rfl (by rfl)) ?_
   rintro _ w30 ⟨rfl, hO31, hs32⟩
   refine rl_v rfl rfl rfl (ov_assign rfl rfl) <| rl_nil <| run_ret Try.func64 (resW2 Try.results64 rfl rfl Try.underlying69 rfl (by kernel_rfl) hO31 2 rfl) ?_
   exact ⟨_, by rw [if_pos hi], by rw [if_pos hi]; exact RWt.out ⟨K2, rfl, hO31.tail.tail.tail.tail, hK2⟩⟩
theorem rcopy_any (X : MW) (K : RK) (i : Int) (B : Nat) (N H : List (Option Blk)) (w0 w : World) (hG : Good X) (hb : X.bag.length + 5 < 4000000000000) (hO : Own B w0 w H) (hN : ∀ x ∈ N, x ∈ H) (hK : XIn N X K) :
  Calls Try.prog 65 #[rwv X K, iv i] w fun e w' => ∃ v', e = .returned (.tuple #[v', iv (if 0 ≤ i ∧ i < X.bag.length then if X.bag.length ≤ 3000 then 0 else 6 else 4)]) ∧ ROut B w0 w' v' (if 0 ≤ i ∧ i < X.bag.length ∧ X.bag.length ≤ 3000 then X.send (X.bag.getD i.toNat Ms.z) else X) N H := by
 refine calls_of_run (F := [(0, _), (1, _)]) Try.func65 rfl Try.ntmps65 rfl rfl <| run_seq <| run_region <| rl_ow rfl (ow_box _ rfl rfl rfl rfl rfl hO) ?_
 rintro _ w1 ⟨b2, rfl, hO2, hs3⟩
 refine rl_ow rfl (ow_alloc _ rfl rfl rfl zero_69 rfl hO2) ?_
 rintro _ w4 ⟨b4, rfl, hO5, hs6⟩
 refine rl_v rfl rfl rfl (ov_assign rfl rfl) <| rl_nil <| run_seq <| run_seq <| run_region_join 16 (.bool (decide ((i < 0 ∨ (X.bag.length : Int) ≤ i)))) [1, 2, 4] (fun hk7 => ?_) ?_
 ·refine rl_v rfl rfl rfl (ov_move rfl rfl) <| rl_v rfl rfl rfl (ov_lss rfl rfl rfl) <| rl_v rfl rfl rfl (ov_move rfl rfl) ?_
  first | refine rl_split_dec 10 rfl (fun hg8 => ?_) (fun hg8 => ?_) | refine rl_split 10 rfl (fun hg8 => ?_) (fun hg8 => ?_)
  ·refine rl_gskip rfl rfl rfl rfl rfl rfl <| rl_gskip rfl rfl rfl rfl rfl rfl <| rl_gskip rfl rfl rfl rfl rfl rfl <| rl_gskip rfl rfl rfl rfl rfl rfl <| rl_gskip rfl rfl rfl rfl rfl rfl <| rl_v rfl rfl rfl (ov_pick_t rfl rfl rfl) ?_
   refine rl_nil (hk7 _ (jbt rfl (by omega)) (And.intro rfl (And.intro rfl (And.intro rfl trivial))))
  ·refine rl_gv rfl rfl rfl rfl rfl (ov_move rfl rfl) <| rl_gv rfl rfl rfl rfl rfl (ov_fieldS rfl Try.underlying69 rfl (fo := 6) rfl (by kernel_rfl) rfl) ?_
   refine rl_gv rfl rfl rfl rfl rfl (ov_load rfl Try.underlying63 rfl rfl (by exact hO5.cellL 1 rfl rfl)) ?_
   refine rl_gv rfl rfl rfl rfl rfl (ov_len rfl Try.underlying63 rfl) <| rl_gv rfl rfl rfl rfl rfl (ov_geq rfl rfl rfl) <| rl_v rfl rfl rfl (ov_pick_f rfl rfl rfl) ?_
   refine rl_nil (hk7 _ (jbd rfl (by omega)) (And.intro rfl (And.intro rfl (And.intro rfl trivial))))
 ·show Run _ _ _ _ [(16, _), (1, _), (2, _), (4, _)] _ _
  first | refine run_cond_dec rfl (fun c1 => ?_) (fun c2 => ?_) | refine run_cond rfl (fun c1 => ?_) (fun c2 => ?_)
  ·refine run_seq <| run_region <| rl_v rfl rfl rfl (ov_loadW rfl Try.underlying69 rfl (by kernel_rfl) rfl hO5 1 rfl) ?_
   refine rl_ow rfl (ow_storeW rfl rfl (by kernel_rfl) hO5 0 rfl rfl (by rfl) rfl (by rfl)) ?_
   rintro _ w9 ⟨rfl, hO10, hs11⟩
   refine rl_v rfl rfl rfl (ov_assign rfl rfl) <| rl_nil <| run_ret Try.func65 (resW2 Try.results65 rfl rfl Try.underlying69 rfl (by kernel_rfl) hO10 0 rfl) ?_
   exact ⟨_, by rw [if_neg (show ¬ (0 ≤ i ∧ i < X.bag.length) by omega)], by rw [if_neg (show ¬ (0 ≤ i ∧ i < X.bag.length ∧ X.bag.length ≤ 3000) by omega)]; exact .same hK hO10.tail.tail⟩
  ·have hi : 0 ≤ i ∧ i < X.bag.length := by omega
   refine run_skip <| run_seq <| run_seq <| run_region <| rl_v rfl rfl rfl (ov_fieldS rfl Try.underlying69 rfl (fo := 6) rfl (by kernel_rfl) rfl) ?_
   refine rl_v rfl rfl rfl (ov_load rfl Try.underlying63 rfl rfl (by exact hO5.cellL 1 rfl rfl)) ?_
   refine rl_v rfl rfl rfl (ov_len rfl Try.underlying63 rfl) <| rl_v rfl rfl rfl (ov_gtr rfl rfl rfl) <| rl_nil ?_
   first | refine run_cond_dec rfl (fun d1 => ?_) (fun d2 => ?_) | refine run_cond rfl (fun d1 => ?_) (fun d2 => ?_)
   ·refine run_seq <| run_region <| rl_v rfl rfl rfl (ov_loadW rfl Try.underlying69 rfl (by kernel_rfl) rfl hO5 1 rfl) ?_
    refine rl_ow rfl (ow_storeW rfl rfl (by kernel_rfl) hO5 0 rfl rfl (by rfl) rfl (by rfl)) ?_
    rintro _ w12 ⟨rfl, hO13, hs14⟩
    refine rl_v rfl rfl rfl (ov_assign rfl rfl) <| rl_nil <| run_ret Try.func65 (resW2 Try.results65 rfl rfl Try.underlying69 rfl (by kernel_rfl) hO13 0 rfl) ?_
    exact ⟨_, by rw [if_pos hi, if_neg (by omega)], by rw [if_neg (show ¬ (0 ≤ i ∧ i < X.bag.length ∧ X.bag.length ≤ 3000) by omega)]; exact .same hK hO13.tail.tail⟩
   ·refine run_skip <| run_seq <| run_region <| rl_v rfl rfl rfl (ov_loadW rfl Try.underlying69 rfl (by kernel_rfl) rfl hO5 1 rfl) ?_
    refine rl_call callable_80 rfl rfl rfl rfl rfl rfl (rfork_any X K B N _ w0 w4 hG (by omega) hO5 (mem_c1 (mem_c1 hN)) hK) (fun e15 w16 hp17 => ?_)
    obtain ⟨v20, rfl, K2, rfl, hO2, hK2⟩ := hp17
    refine ⟨_, rfl, ?_⟩
    refine rl_ow rfl (ow_alloc _ rfl rfl rfl zero_69 rfl hO2) ?_
    rintro _ w18 ⟨b6, rfl, hO19, hs20⟩
    refine rl_ow rfl (ow_storeW rfl rfl (by kernel_rfl) hO19 0 rfl rfl (by rfl) rfl (by rfl)) ?_
    rintro _ w21 ⟨rfl, hO22, hs23⟩
    obtain ⟨gb, hga, hrow⟩ := (hK2.xin.bv).open
    refine rl_nil <| run_seq <| run_region <| rl_v rfl rfl rfl (ov_fieldS rfl Try.underlying69 rfl (fo := 6) rfl (by kernel_rfl) rfl) ?_
    refine rl_v rfl rfl rfl (ov_load rfl Try.underlying63 rfl rfl (by exact hO22.cellL 0 rfl rfl)) ?_
    refine rl_v rfl rfl rfl (ov_move rfl rfl) <| rl_v rfl rfl rfl (ov_index rfl Try.underlying63 (by kernel_rfl) (s := 4) rfl rfl ⟨by omega, by omega⟩ (by exact (hga (by omega)))) ?_
    refine rl_v rfl rfl rfl (ov_loadE rfl Try.underlying136 rfl (by kernel_rfl) rfl ⟨by omega, by omega⟩ rfl (hrow hO22 (mem_c1 (mem_c1 (mem_c1 (memNM hN)))))) ?_
    refine rl_ow rfl (ow_alloc _ rfl rfl rfl zero_136 rfl hO22) ?_
    rintro _ w24 ⟨b7, rfl, hO25, hs26⟩
    refine rl_ow rfl (ow_storeW rfl rfl (by kernel_rfl) hO25 0 rfl rfl (by rfl) rfl (by rfl)) ?_
    rintro _ w27 ⟨rfl, hO28, hs29⟩
    refine rl_nil <| run_seq <| run_region <| rl_v rfl rfl rfl (ov_loadW rfl Try.underlying69 rfl (by kernel_rfl) rfl hO28 1 rfl) ?_
    refine rl_v rfl rfl rfl (ov_fieldS rfl Try.underlying136 rfl (fo := 0) rfl (by kernel_rfl) rfl) ?_
    refine rl_v rfl rfl rfl (ov_load rfl Try.underlying3 rfl rfl (by exact hO28.cellL 0 rfl rfl)) ?_
    refine rl_v rfl rfl rfl (ov_fieldS rfl Try.underlying136 rfl (fo := 1) rfl (by kernel_rfl) rfl) ?_
    refine rl_v rfl rfl rfl (ov_load rfl Try.underlying3 rfl rfl (by exact hO28.cellL 0 rfl rfl)) ?_
    refine rl_v rfl rfl rfl (ov_fieldS rfl Try.underlying136 rfl (fo := 2) rfl (by kernel_rfl) rfl) ?_
    refine rl_v rfl rfl rfl (ov_load rfl Try.underlying3 rfl rfl (by exact hO28.cellL 0 rfl rfl)) ?_
    refine rl_v rfl rfl rfl (ov_fieldS rfl Try.underlying136 rfl (fo := 3) rfl (by kernel_rfl) rfl) ?_
    refine rl_v rfl rfl rfl (ov_load rfl Try.underlying3 rfl rfl (by exact hO28.cellL 0 rfl rfl)) ?_
    refine rl_call callable_84 rfl rfl rfl rfl rfl rfl (rsend_any X (X.bag.getD i.toNat Ms.z) _ B N _ w0 w27 (by omega) (RWt.of4 hO28 hK2)) (fun e30 w31 hp32 => ?_)
    obtain ⟨v39, rfl, K3, rfl, hO3, hK3⟩ := hp32
    refine ⟨_, rfl, ?_⟩
    refine rl_ow rfl (ow_storeW rfl rfl (by kernel_rfl) hO3 2 rfl rfl (by rfl) rfl (by rfl)) ?_
    rintro _ w33 ⟨rfl, hO34, hs35⟩
    refine rl_v rfl rfl rfl (ov_assign rfl rfl) <| rl_nil <| run_ret Try.func65 (resW2 Try.results65 rfl rfl Try.underlying69 rfl (by kernel_rfl) hO34 2 rfl) ?_
    exact ⟨_, by rw [if_pos hi, if_pos (by omega)], by rw [if_pos ⟨hi.1, hi.2, by omega⟩]; exact RWt.out ⟨K3, rfl, hO34.tail.tail.tail.tail, hK3⟩⟩
theorem rTick_any (X : MW) (K : RK) (n : Int) (B : Nat) (N H : List (Option Blk)) (w0 w : World) (hG : Good X) (hL : LInv X) (hb : X.bag.length + 5000 < 4000000000000) (hO : Own B w0 w H) (hN : ∀ x ∈ N, x ∈ H) (hK : XIn N X K) :
  Calls Try.prog 66 #[rwv X K, iv n] w fun e w' => ∃ v', e = .returned (.tuple #[v', iv (if N3 n then if (X.lg n).down then 80 else 0 else 4)]) ∧ ROut B w0 w' v' (if N3 n then X.tick0 n else X) N H := by
 refine calls_of_run (F := [(0, _), (1, _)]) Try.func66 rfl Try.ntmps66 rfl rfl <| run_seq <| run_region <| rl_ow rfl (ow_box _ rfl rfl rfl rfl rfl hO) ?_
 rintro _ w1 ⟨b2, rfl, hO2, hs3⟩
 refine rl_ow rfl (ow_alloc _ rfl rfl rfl zero_69 rfl hO2) ?_
 rintro _ w4 ⟨b4, rfl, hO5, hs6⟩
 refine rl_v rfl rfl rfl (ov_assign rfl rfl) <| rl_nil <| run_seq <| run_seq <| run_region <| rl_v rfl rfl rfl (ov_move rfl rfl) ?_
 refine rl_call callable_85 rfl rfl rfl rfl rfl rfl (node_is n w4) (fun e7 w8 hp9 => ?_)
 obtain ⟨bn, rfl, hbn, rfl⟩ := hp9
 refine ⟨_, rfl, ?_⟩
 refine rl_v rfl rfl rfl (ov_not rfl rfl) <| rl_nil ?_
 first | refine run_cond_dec rfl (fun c1 => ?_) (fun c2 => ?_) | refine run_cond rfl (fun c1 => ?_) (fun c2 => ?_)
 ·have hn : ¬ N3 n := fun h => by rw [hbn.2 h] at c1; exact Bool.noConfusion c1
  refine run_seq <| run_region <| rl_v rfl rfl rfl (ov_loadW rfl Try.underlying69 rfl (by kernel_rfl) rfl hO5 1 rfl) ?_
  refine rl_ow rfl (ow_storeW rfl rfl (by kernel_rfl) hO5 0 rfl rfl (by rfl) rfl (by rfl)) ?_
  rintro _ w10 ⟨rfl, hO11, hs12⟩
  refine rl_v rfl rfl rfl (ov_assign rfl rfl) <| rl_nil <| run_ret Try.func66 (resW2 Try.results66 rfl rfl Try.underlying69 rfl (by kernel_rfl) hO11 0 rfl) ?_
  exact ⟨_, by rw [if_neg hn], by rw [if_neg hn]; exact .same hK hO11.tail.tail⟩
 ·have hn : N3 n := hbn.1 (by simpa using c2)
  have hn0 : 0 ≤ n ∧ n ≤ 2 := by unfold N3 at hn; omega
  refine run_skip <| run_seq <| run_seq <| run_region <| rl_v rfl rfl rfl (ov_move rfl rfl) <| rl_v rfl rfl rfl (ov_fieldS rfl Try.underlying69 rfl (fo := 7) rfl (by kernel_rfl) rfl) ?_
  refine rl_v rfl rfl rfl (ov_indexA rfl Try.underlying67 (by kernel_rfl) (s := 5) rfl rfl ⟨by omega, by omega⟩) ?_
  refine rl_v rfl rfl rfl (ov_fieldS rfl Try.underlying66 rfl (fo := 2) rfl (by kernel_rfl) rfl) ?_
  refine rl_v rfl rfl rfl (ov_load rfl Try.underlying4 rfl rfl (by exact hO5.cellL 1 rfl ((rw_node X K hn 2 (by omega)).trans rfl))) ?_
  refine rl_nil ?_
  first | refine run_cond_dec rfl (fun d1 => ?_) (fun d2 => ?_) | refine run_cond rfl (fun d1 => ?_) (fun d2 => ?_)
  ·refine run_seq <| run_region <| rl_v rfl rfl rfl (ov_loadW rfl Try.underlying69 rfl (by kernel_rfl) rfl hO5 1 rfl) ?_
   refine rl_ow rfl (ow_storeW rfl rfl (by kernel_rfl) hO5 0 rfl rfl (by rfl) rfl (by rfl)) ?_
   rintro _ w13 ⟨rfl, hO14, hs15⟩
   refine rl_v rfl rfl rfl (ov_assign rfl rfl) <| rl_nil <| run_ret Try.func66 (resW2 Try.results66 rfl rfl Try.underlying69 rfl (by kernel_rfl) hO14 0 rfl) ?_
   exact ⟨_, by rw [if_pos hn, if_pos d1], by rw [if_pos hn, show X.tick0 n = X from by unfold MW.tick0; rw [if_pos d1]]; exact .same hK hO14.tail.tail⟩
  ·refine run_skip <| run_seq <| run_region <| rl_v rfl rfl rfl (ov_loadW rfl Try.underlying69 rfl (by kernel_rfl) rfl hO5 1 rfl) ?_
   refine rl_call callable_80 rfl rfl rfl rfl rfl rfl (rfork_any X K B N _ w0 w8 hG (by omega) hO5 (mem_c1 (mem_c1 hN)) hK) (fun e16 w17 hp18 => ?_)
   obtain ⟨v20, rfl, hR⟩ := hp18
   refine ⟨_, rfl, ?_⟩
   refine rl_v rfl rfl rfl (ov_move rfl rfl) ?_
   refine rl_call callable_86 rfl rfl rfl rfl rfl rfl (rtick_any X n _ B N _ w0 w17 hn hG hL d2 hb (mem_c1 (mem_c1 hN)) hR) (fun e19 w20 hp21 => ?_)
   obtain ⟨v39, rfl, K3, rfl, hO3, hK3⟩ := hp21
   refine ⟨_, rfl, ?_⟩
   refine rl_ow rfl (ow_storeW rfl rfl (by kernel_rfl) hO3 0 rfl rfl (by rfl) rfl (by rfl)) ?_
   rintro _ w22 ⟨rfl, hO23, hs24⟩
   refine rl_v rfl rfl rfl (ov_assign rfl rfl) <| rl_nil <| run_ret Try.func66 (resW2 Try.results66 rfl rfl Try.underlying69 rfl (by kernel_rfl) hO23 0 rfl) ?_
   exact ⟨_, by rw [if_pos hn, if_neg (by rw [d2]; decide)], by rw [if_pos hn, show X.tick0 n = X.tick n from by unfold MW.tick0; rw [if_neg (by rw [d2]; decide)]]; exact RWt.out ⟨K3, rfl, hO23.tail.tail, hK3⟩⟩
theorem rrestart_any (X : MW) (K : RK) (n : Int) (B : Nat) (N H : List (Option Blk)) (w0 w : World) (hG : Good X) (hb : X.bag.length + 5 < 4000000000000) (hO : Own B w0 w H) (hN : ∀ x ∈ N, x ∈ H) (hK : XIn N X K) :
  Calls Try.prog 68 #[rwv X K, iv n] w fun e w' => ∃ v', e = .returned (.tuple #[v', iv (if N3 n then if (X.lg n).down then 0 else 5 else 4)]) ∧ ROut B w0 w' v' (if N3 n then X.restart n else X) N H := by
 refine calls_of_run (F := [(0, _), (1, _)]) Try.func68 rfl Try.ntmps68 rfl rfl <| run_seq <| run_region <| rl_ow rfl (ow_box _ rfl rfl rfl rfl rfl hO) ?_
 rintro _ w1 ⟨b2, rfl, hO2, hs3⟩
 refine rl_ow rfl (ow_alloc _ rfl rfl rfl zero_69 rfl hO2) ?_
 rintro _ w4 ⟨b4, rfl, hO5, hs6⟩
 refine rl_v rfl rfl rfl (ov_assign rfl rfl) <| rl_nil <| run_seq <| run_seq <| run_region <| rl_v rfl rfl rfl (ov_move rfl rfl) ?_
 refine rl_call callable_85 rfl rfl rfl rfl rfl rfl (node_is n w4) (fun e7 w8 hp9 => ?_)
 obtain ⟨bn, rfl, hbn, rfl⟩ := hp9
 refine ⟨_, rfl, ?_⟩
 refine rl_v rfl rfl rfl (ov_not rfl rfl) <| rl_nil ?_
 first | refine run_cond_dec rfl (fun c1 => ?_) (fun c2 => ?_) | refine run_cond rfl (fun c1 => ?_) (fun c2 => ?_)
 ·have hn : ¬ N3 n := fun h => by rw [hbn.2 h] at c1; exact Bool.noConfusion c1
  refine run_seq <| run_region <| rl_v rfl rfl rfl (ov_loadW rfl Try.underlying69 rfl (by kernel_rfl) rfl hO5 1 rfl) ?_
  refine rl_ow rfl (ow_storeW rfl rfl (by kernel_rfl) hO5 0 rfl rfl (by rfl) rfl (by rfl)) ?_
  rintro _ w10 ⟨rfl, hO11, hs12⟩
  refine rl_v rfl rfl rfl (ov_assign rfl rfl) <| rl_nil <| run_ret Try.func68 (resW2 Try.results68 rfl rfl Try.underlying69 rfl (by kernel_rfl) hO11 0 rfl) ?_
  exact ⟨_, by rw [if_neg hn], by rw [if_neg hn]; exact .same hK hO11.tail.tail⟩
 ·have hn : N3 n := hbn.1 (by simpa using c2)
  have hn0 : 0 ≤ n ∧ n ≤ 2 := by unfold N3 at hn; omega
  refine run_skip <| run_seq <| run_seq <| run_region <| rl_v rfl rfl rfl (ov_move rfl rfl) <| rl_v rfl rfl rfl (ov_fieldS rfl Try.underlying69 rfl (fo := 7) rfl (by kernel_rfl) rfl) ?_
  refine rl_v rfl rfl rfl (ov_indexA rfl Try.underlying67 (by kernel_rfl) (s := 5) rfl rfl ⟨by omega, by omega⟩) ?_
  refine rl_v rfl rfl rfl (ov_fieldS rfl Try.underlying66 rfl (fo := 2) rfl (by kernel_rfl) rfl) ?_
  refine rl_v rfl rfl rfl (ov_load rfl Try.underlying4 rfl rfl (by exact hO5.cellL 1 rfl ((rw_node X K hn 2 (by omega)).trans rfl))) ?_
  refine rl_v rfl rfl rfl (ov_not rfl rfl) <| rl_nil ?_
  first | refine run_cond_dec rfl (fun d1 => ?_) (fun d2 => ?_) | refine run_cond rfl (fun d1 => ?_) (fun d2 => ?_)
  ·have hdw : (X.lg n).down = false := by simpa using d1
   refine run_seq <| run_region <| rl_v rfl rfl rfl (ov_loadW rfl Try.underlying69 rfl (by kernel_rfl) rfl hO5 1 rfl) ?_
   refine rl_ow rfl (ow_storeW rfl rfl (by kernel_rfl) hO5 0 rfl rfl (by rfl) rfl (by rfl)) ?_
   rintro _ w13 ⟨rfl, hO14, hs15⟩
   refine rl_v rfl rfl rfl (ov_assign rfl rfl) <| rl_nil <| run_ret Try.func68 (resW2 Try.results68 rfl rfl Try.underlying69 rfl (by kernel_rfl) hO14 0 rfl) ?_
   exact ⟨_, by rw [if_pos hn, if_neg (by rw [hdw]; decide)], by rw [if_pos hn, show X.restart n = X from by unfold MW.restart; dsimp only; rw [if_neg (by rw [hdw]; decide)]]; exact .same hK hO14.tail.tail⟩
  ·have hdw : (X.lg n).down = true := by simpa using d2
   refine run_skip <| run_seq <| run_region <| rl_v rfl rfl rfl (ov_loadW rfl Try.underlying69 rfl (by kernel_rfl) rfl hO5 1 rfl) ?_
   refine rl_call callable_80 rfl rfl rfl rfl rfl rfl (rfork_any X K B N _ w0 w8 hG (by omega) hO5 (mem_c1 (mem_c1 hN)) hK) (fun e16 w17 hp18 => ?_)
   obtain ⟨v20, rfl, hR⟩ := hp18
   refine ⟨_, rfl, ?_⟩
   refine rl_v rfl rfl rfl (ov_move rfl rfl) ?_
   refine rl_call callable_87 rfl rfl rfl rfl rfl rfl (rup_any X n _ B N _ w0 w17 hn hG hdw hR) (fun e19 w20 hp21 => ?_)
   obtain ⟨v39, rfl, K3, rfl, hO3, hK3⟩ := hp21
   refine ⟨_, rfl, ?_⟩
   refine rl_ow rfl (ow_storeW rfl rfl (by kernel_rfl) hO3 0 rfl rfl (by rfl) rfl (by rfl)) ?_
   rintro _ w22 ⟨rfl, hO23, hs24⟩
   refine rl_v rfl rfl rfl (ov_assign rfl rfl) <| rl_nil <| run_ret Try.func68 (resW2 Try.results68 rfl rfl Try.underlying69 rfl (by kernel_rfl) hO23 0 rfl) ?_
   exact ⟨_, by rw [if_pos hn, if_pos hdw], by rw [if_pos hn]; exact RWt.out ⟨K3, rfl, hO23.tail.tail, hK3⟩⟩
theorem rfuse_any (X : MW) (K : RK) (n s : Int) (B : Nat) (N H : List (Option Blk)) (w0 w : World) (hG : Good X) (hb : X.bag.length + 5 < 4000000000000) (hO : Own B w0 w H) (hN : ∀ x ∈ N, x ∈ H) (hK : XIn N X K) :
  Calls Try.prog 69 #[rwv X K, iv n, iv s] w fun e w' => ∃ v', e = .returned (.tuple #[v', iv (if N3 n then if s < 0 then 1 else 0 else 4)]) ∧ ROut B w0 w' v' (if N3 n ∧ 0 ≤ s then X.unfuse n (max s 1) else X) N H := by
 refine calls_of_run (F := [(0, _), (1, _), (2, _)]) Try.func69 rfl Try.ntmps69 rfl rfl <| run_seq <| run_region <| rl_ow rfl (ow_box _ rfl rfl rfl rfl rfl hO) ?_
 rintro _ w1 ⟨b3, rfl, hO2, hs3⟩
 refine rl_ow rfl (ow_alloc _ rfl rfl rfl zero_69 rfl hO2) ?_
 rintro _ w4 ⟨b6, rfl, hO5, hs6⟩
 refine rl_v rfl rfl rfl (ov_assign rfl rfl) <| rl_nil <| run_seq <| run_seq <| run_region <| rl_v rfl rfl rfl (ov_move rfl rfl) ?_
 refine rl_call callable_85 rfl rfl rfl rfl rfl rfl (node_is n w4) (fun e7 w8 hp9 => ?_)
 obtain ⟨bn, rfl, hbn, rfl⟩ := hp9
 refine ⟨_, rfl, ?_⟩
 refine rl_v rfl rfl rfl (ov_not rfl rfl) <| rl_nil ?_
 first | refine run_cond_dec rfl (fun c1 => ?_) (fun c2 => ?_) | refine run_cond rfl (fun c1 => ?_) (fun c2 => ?_)
 ·have hn : ¬ N3 n := fun h => by rw [hbn.2 h] at c1; exact Bool.noConfusion c1
  refine run_seq <| run_region <| rl_v rfl rfl rfl (ov_loadW rfl Try.underlying69 rfl (by kernel_rfl) rfl hO5 1 rfl) ?_
  refine rl_ow rfl (ow_storeW rfl rfl (by kernel_rfl) hO5 0 rfl rfl (by rfl) rfl (by rfl)) ?_
  rintro _ w10 ⟨rfl, hO11, hs12⟩
  refine rl_v rfl rfl rfl (ov_assign rfl rfl) <| rl_nil <| run_ret Try.func69 (resW2 Try.results69 rfl rfl Try.underlying69 rfl (by kernel_rfl) hO11 0 rfl) ?_
  exact ⟨_, by rw [if_neg hn], by rw [if_neg fun h => hn h.1]; exact .same hK hO11.tail.tail⟩
 ·have hn : N3 n := hbn.1 (by simpa using c2)
  have hn0 : 0 ≤ n ∧ n ≤ 2 := by unfold N3 at hn; omega
  refine run_skip <| run_seq <| run_seq <| run_region <| rl_v rfl rfl rfl (ov_move rfl rfl) <| rl_v rfl rfl rfl (ov_lss rfl rfl rfl) <| rl_nil ?_
  first | refine run_cond_dec rfl (fun d1 => ?_) (fun d2 => ?_) | refine run_cond rfl (fun d1 => ?_) (fun d2 => ?_)
  ·refine run_seq <| run_region <| rl_v rfl rfl rfl (ov_loadW rfl Try.underlying69 rfl (by kernel_rfl) rfl hO5 1 rfl) ?_
   refine rl_ow rfl (ow_storeW rfl rfl (by kernel_rfl) hO5 0 rfl rfl (by rfl) rfl (by rfl)) ?_
   rintro _ w13 ⟨rfl, hO14, hs15⟩
   refine rl_v rfl rfl rfl (ov_assign rfl rfl) <| rl_nil <| run_ret Try.func69 (resW2 Try.results69 rfl rfl Try.underlying69 rfl (by kernel_rfl) hO14 0 rfl) ?_
   exact ⟨_, by rw [if_pos hn, if_pos d1], by rw [if_neg fun h => absurd h.2 (by omega)]; exact .same hK hO14.tail.tail⟩
  ·refine run_skip <| run_seq <| run_region <| rl_v rfl rfl rfl (ov_loadW rfl Try.underlying69 rfl (by kernel_rfl) rfl hO5 1 rfl) ?_
   refine rl_call callable_80 rfl rfl rfl rfl rfl rfl (rfork_any X K B N _ w0 w8 hG (by omega) hO5 (mem_c1 (mem_c1 hN)) hK) (fun e16 w17 hp18 => ?_)
   obtain ⟨v20, rfl, K2, rfl, hO2, hK2⟩ := hp18
   refine ⟨_, rfl, ?_⟩
   refine rl_ow rfl (ow_storeW rfl rfl (by kernel_rfl) hO2 1 rfl rfl (by rfl) rfl (by rfl)) ?_
   rintro _ w19 ⟨rfl, hO20, hs21⟩
   refine rl_nil <| run_seq <| run_region <| rl_v rfl rfl rfl (ov_move rfl rfl) <| rl_v rfl rfl rfl (ov_move rfl rfl) <| rl_v rfl rfl rfl (ov_max rfl rfl rfl) <| rl_v rfl rfl rfl (ov_fieldS rfl Try.underlying69 rfl (fo := 7) rfl (by kernel_rfl) rfl) ?_
   refine rl_v rfl rfl rfl (ov_indexA rfl Try.underlying67 (by kernel_rfl) (s := 5) rfl rfl ⟨by omega, by omega⟩) ?_
   refine rl_v rfl rfl rfl (ov_fieldS rfl Try.underlying66 rfl (fo := 4) rfl (by kernel_rfl) rfl) ?_
   refine rl_ow rfl (ow_storeL rfl rfl (by kernel_rfl) hO20 1 rfl rfl (rw_room hn) rfl rfl) ?_
   rintro _ w22 ⟨rfl, hO23, hs24⟩
   rw [rw_fuse X K2 hn] at hO23
   refine rl_nil <| run_seq <| run_region <| rl_v rfl rfl rfl (ov_loadW rfl Try.underlying69 rfl (by kernel_rfl) rfl hO23 1 rfl) ?_
   refine rl_ow rfl (ow_storeW rfl rfl (by kernel_rfl) hO23 0 rfl rfl (by rfl) rfl (by rfl)) ?_
   rintro _ w25 ⟨rfl, hO26, hs27⟩
   have hK3 : ROk N (X.unfuse n (max 1 s)) K2 := by
    have := hK2.logged hn (l := { X.lg n with fuse := max 1 s }) (a := K2.la n) (p := K2.lp n) (c := K2.lb n) (hK2.lv n hn) (tk_down (by rcases hn with rfl | rfl | rfl <;> rfl) (setLg_kn _ _ _))
    rwa [K2.setL_self hn] at this
   refine rl_v rfl rfl rfl (ov_assign rfl rfl) <| rl_nil <| run_ret Try.func69 (resW2 Try.results69 rfl rfl Try.underlying69 rfl (by kernel_rfl) hO26 0 rfl) ?_
   exact ⟨_, by rw [if_pos hn, if_neg d2], by rw [if_pos ⟨hn, by omega⟩, show max s 1 = max 1 s by omega]; exact RWt.out ⟨K2, rfl, hO26.tail.tail, hK3⟩⟩
theorem SRow.cut {a : Option Addr} {n m cap s : Nat} {E : TypeId} {G : Int → List Value} {c : Option Blk} (h : SRow (.slice a n cap) E s n G c) (hm : m ≤ n) : SRow (.slice a m cap) E s m G c := by
 rcases h with ⟨h1, h2, h3⟩ | ⟨b, cap', g, h1, h2, h3, h4, h5⟩
 ·cases h1
  obtain rfl : m = 0 := by omega
  exact .inl ⟨rfl, rfl, h3⟩
 ·cases h1
  exact .inr ⟨b, _, g, rfl, by omega, h3, h4, fun j hj => h5 j (Nat.lt_of_lt_of_le hj (Nat.mul_le_mul_right s hm))⟩
theorem cut_row {l : List Rc} {a : Option Addr} {s cap : Nat} {E : TypeId} {c : Option Blk} (h : SRow (.slice a l.length cap) E 2 l.length (cnt rcl (0, 0) l) c) (hs : s ≤ l.length) : SRow (.slice a (l.take s).length cap) E 2 (l.take s).length (cnt rcl (0, 0) (l.take s)) c := by
 have e : (l.take s).length = s := by simp; omega
 rw [e]
 refine (h.cut hs).congr fun i h0 h1 => ?_
 have h2 : i.toNat < s := by omega
 unfold cnt
 simp [List.getD_eq_getElem?_getD, List.getElem?_take, h2]
theorem cut_cells {l : List Rc} {s : Nat} (hs : s ≤ l.length) (a : Option Addr) (p : Nat) : ncl a p ⟨l.take s, s, 0, true⟩ = [.slice a s p, iv s, .bool true, .bool false, iv 0] := by
 have e : (l.take s).length = s := by simp; omega
 unfold ncl brnt
 simp [e]
theorem rcrash_any (X : MW) (K : RK) (n s : Int) (B : Nat) (N H : List (Option Blk)) (w0 w : World) (hG : Good X) (hs9 : s ≤ 9223372036854775807) (hb : X.bag.length + 5 < 4000000000000) (hO : Own B w0 w H) (hN : ∀ x ∈ N, x ∈ H) (hK : XIn N X K) :
  Calls Try.prog 67 #[rwv X K, iv n, iv s] w fun e w' => ∃ v', e = .returned (.tuple #[v', iv (if N3 n then if s < 0 then 1 else if (X.lg n).down = true ∧ (X.lg n).safe = (X.lg n).recs.length then 80 else 0 else 4)]) ∧
   ROut B w0 w' v' (if N3 n ∧ 0 ≤ s ∧ ¬ ((X.lg n).down = true ∧ (X.lg n).safe = (X.lg n).recs.length) then X.crash n s else X) N H := by
 have hdn := hG.dn
 refine calls_of_run (F := [(0, _), (1, _), (2, _)]) Try.func67 rfl Try.ntmps67 rfl rfl <| run_seq <| run_region <| rl_ow rfl (ow_box _ rfl rfl rfl rfl rfl hO) ?_
 rintro _ w1 ⟨b3, rfl, hO2, hs3⟩
 refine rl_ow rfl (ow_alloc _ rfl rfl rfl zero_69 rfl hO2) ?_
 rintro _ w4 ⟨b6, rfl, hO5, hs6⟩
 refine rl_v rfl rfl rfl (ov_assign rfl rfl) <| rl_nil <| run_seq <| run_seq <| run_region <| rl_v rfl rfl rfl (ov_move rfl rfl) ?_
 refine rl_call callable_85 rfl rfl rfl rfl rfl rfl (node_is n w4) (fun e7 w8 hp9 => ?_)
 obtain ⟨bn, rfl, hbn, rfl⟩ := hp9
 refine ⟨_, rfl, ?_⟩
 refine rl_v rfl rfl rfl (ov_not rfl rfl) <| rl_nil ?_
 first | refine run_cond_dec rfl (fun c1 => ?_) (fun c2 => ?_) | refine run_cond rfl (fun c1 => ?_) (fun c2 => ?_)
 ·have hn : ¬ N3 n := fun h => by rw [hbn.2 h] at c1; exact Bool.noConfusion c1
  refine run_seq <| run_region <| rl_v rfl rfl rfl (ov_loadW rfl Try.underlying69 rfl (by kernel_rfl) rfl hO5 1 rfl) ?_
  refine rl_ow rfl (ow_storeW rfl rfl (by kernel_rfl) hO5 0 rfl rfl (by rfl) rfl (by rfl)) ?_
  rintro _ w10 ⟨rfl, hO11, hs12⟩
  refine rl_v rfl rfl rfl (ov_assign rfl rfl) <| rl_nil <| run_ret Try.func67 (resW2 Try.results67 rfl rfl Try.underlying69 rfl (by kernel_rfl) hO11 0 rfl) ?_
  exact ⟨_, by rw [if_neg hn], by rw [if_neg fun h => hn h.1]; exact .same hK hO11.tail.tail⟩
 ·have hn : N3 n := hbn.1 (by simpa using c2)
  have hn0 : 0 ≤ n ∧ n ≤ 2 := by unfold N3 at hn; omega
  refine run_skip <| run_seq <| run_seq <| run_region <| rl_v rfl rfl rfl (ov_move rfl rfl) <| rl_v rfl rfl rfl (ov_lss rfl rfl rfl) <| rl_nil ?_
  first | refine run_cond_dec rfl (fun d1 => ?_) (fun d2 => ?_) | refine run_cond rfl (fun d1 => ?_) (fun d2 => ?_)
  ·refine run_seq <| run_region <| rl_v rfl rfl rfl (ov_loadW rfl Try.underlying69 rfl (by kernel_rfl) rfl hO5 1 rfl) ?_
   refine rl_ow rfl (ow_storeW rfl rfl (by kernel_rfl) hO5 0 rfl rfl (by rfl) rfl (by rfl)) ?_
   rintro _ w13 ⟨rfl, hO14, hs15⟩
   refine rl_v rfl rfl rfl (ov_assign rfl rfl) <| rl_nil <| run_ret Try.func67 (resW2 Try.results67 rfl rfl Try.underlying69 rfl (by kernel_rfl) hO14 0 rfl) ?_
   exact ⟨_, by rw [if_pos hn, if_pos d1], by rw [if_neg fun h => absurd h.2.1 (by omega)]; exact .same hK hO14.tail.tail⟩
  ·have hlen := hG.len hn
   have hsf := hG.sf n hn
   refine run_skip <| run_seq <| run_seq <| run_region <| rl_v rfl rfl rfl (ov_move rfl rfl) <| rl_v rfl rfl rfl (ov_fieldS rfl Try.underlying69 rfl (fo := 7) rfl (by kernel_rfl) rfl) ?_
   refine rl_v rfl rfl rfl (ov_indexA rfl Try.underlying67 (by kernel_rfl) (s := 5) rfl rfl ⟨by omega, by omega⟩) ?_
   refine rl_v rfl rfl rfl (ov_fieldS rfl Try.underlying66 rfl (fo := 2) rfl (by kernel_rfl) rfl) ?_
   refine rl_v rfl rfl rfl (ov_load rfl Try.underlying4 rfl rfl (by exact hO5.cellL 1 rfl ((rw_node X K hn 2 (by omega)).trans rfl))) ?_
   refine rl_v rfl rfl rfl (ov_move rfl rfl) ?_
   first | refine rl_split_dec 21 rfl (fun q1 => ?_) (fun q1 => ?_) | refine rl_split 21 rfl (fun q1 => ?_) (fun q1 => ?_)
   ·refine rl_gv rfl rfl rfl rfl rfl (ov_move rfl rfl) <| rl_gv rfl rfl rfl rfl rfl (ov_fieldS rfl Try.underlying69 rfl (fo := 7) rfl (by kernel_rfl) rfl) ?_
    refine rl_gv rfl rfl rfl rfl rfl (ov_indexA rfl Try.underlying67 (by kernel_rfl) (s := 5) rfl rfl ⟨by omega, by omega⟩) ?_
    refine rl_gv rfl rfl rfl rfl rfl (ov_fieldS rfl Try.underlying66 rfl (fo := 3) rfl (by kernel_rfl) rfl) ?_
    refine rl_gv rfl rfl rfl rfl rfl (ov_load rfl Try.underlying4 rfl rfl (by exact hO5.cellL 1 rfl ((rw_node X K hn 3 (by omega)).trans rfl))) ?_
    refine rl_gv rfl rfl rfl rfl rfl (ov_not rfl rfl) <| rl_v rfl rfl rfl (ov_pick_t rfl rfl rfl) <| rl_nil ?_
    first | refine run_cond_dec rfl (fun q2 => ?_) (fun q3 => ?_) | refine run_cond rfl (fun q2 => ?_) (fun q3 => ?_)
    ·have hdb : (X.lg n).down = true ∧ (X.lg n).safe = (X.lg n).recs.length := ⟨q1, by unfold brnt at q2; rw [q1] at q2; simpa using q2⟩
     refine run_seq <| run_region <| rl_v rfl rfl rfl (ov_loadW rfl Try.underlying69 rfl (by kernel_rfl) rfl hO5 1 rfl) ?_
     refine rl_ow rfl (ow_storeW rfl rfl (by kernel_rfl) hO5 0 rfl rfl (by rfl) rfl (by rfl)) ?_
     rintro _ w17 ⟨rfl, hO18, hs19⟩
     refine rl_v rfl rfl rfl (ov_assign rfl rfl) <| rl_nil <| run_ret Try.func67 (resW2 Try.results67 rfl rfl Try.underlying69 rfl (by kernel_rfl) hO18 0 rfl) ?_
     exact ⟨_, by rw [if_pos hn, if_neg d2, if_pos hdb], by rw [if_neg fun h => h.2.2 hdb]; exact .same hK hO18.tail.tail⟩
    ·have hdb : ¬ ((X.lg n).down = true ∧ (X.lg n).safe = (X.lg n).recs.length) := fun h => by unfold brnt at q3; rw [q1, h.2] at q3; simp at q3
     refine run_skip <| run_seq <| run_region <| rl_v rfl rfl rfl (ov_loadW rfl Try.underlying69 rfl (by kernel_rfl) rfl hO5 1 rfl) ?_
     refine rl_call callable_80 rfl rfl rfl rfl rfl rfl (rfork_any X K B N _ w0 w8 hG (by omega) hO5 (mem_c1 (mem_c1 hN)) hK) (fun e20 w21 hp22 => ?_)
     obtain ⟨v20, rfl, K2, rfl, hO2, hK2⟩ := hp22
     refine ⟨_, rfl, ?_⟩
     refine rl_ow rfl (ow_storeW rfl rfl (by kernel_rfl) hO2 1 rfl rfl (by rfl) rfl (by rfl)) ?_
     rintro _ w23 ⟨rfl, hO24, hs25⟩
     refine rl_nil <| run_seq <| run_region <| rl_v rfl rfl rfl (ov_move rfl rfl) <| rl_v rfl rfl rfl (ov_fieldS rfl Try.underlying69 rfl (fo := 7) rfl (by kernel_rfl) rfl) ?_
     refine rl_v rfl rfl rfl (ov_indexA rfl Try.underlying67 (by kernel_rfl) (s := 5) rfl rfl ⟨by omega, by omega⟩) ?_
     refine rl_v rfl rfl rfl (ov_loadN rfl Try.underlying66 rfl (by kernel_rfl) rfl ((hO24.rangeT 1 rfl _ (rw_nodes X K2 hn)))) ?_
     refine rl_ow rfl (ow_alloc _ rfl rfl rfl zero_66 rfl hO24) ?_
     rintro _ w26 ⟨b8, rfl, hO27, hs28⟩
     refine rl_ow rfl (ow_storeW rfl rfl (by kernel_rfl) hO27 0 rfl rfl (by rfl) rfl (by rfl)) ?_
     rintro _ w29 ⟨rfl, hO30, hs31⟩
     generalize hsn : ((X.lg n).safe + min s ((X.lg n).recs.length - (X.lg n).safe)).toNat = sn
     have hsl : sn ≤ (X.lg n).recs.length := by omega
     have hfit := SRow.fits (hK2.lv n hn)
     refine rl_nil <| run_seq <| run_region <| rl_v rfl rfl rfl (ov_fieldS rfl Try.underlying66 rfl (fo := 0) rfl (by kernel_rfl) rfl) ?_
     refine rl_v rfl rfl rfl (ov_load rfl Try.underlying64 rfl rfl (by exact hO30.cellL 0 rfl rfl)) ?_
     refine rl_v rfl rfl rfl (ov_fieldS rfl Try.underlying66 rfl (fo := 0) rfl (by kernel_rfl) rfl) ?_
     refine rl_v rfl rfl rfl (ov_load rfl Try.underlying64 rfl rfl (by exact hO30.cellL 0 rfl rfl)) ?_
     refine rl_v rfl rfl rfl (ov_len rfl Try.underlying64 rfl) <| rl_v rfl rfl rfl (ov_fieldS rfl Try.underlying66 rfl (fo := 1) rfl (by kernel_rfl) rfl) ?_
     refine rl_v rfl rfl rfl (ov_load rfl Try.underlying3 rfl rfl (by exact hO30.cellL 0 rfl rfl)) ?_
     refine rl_v rfl rfl rfl (ov_move rfl rfl) <| rl_v rfl rfl rfl (ov_fieldS rfl Try.underlying66 rfl (fo := 0) rfl (by kernel_rfl) rfl) ?_
     refine rl_v rfl rfl rfl (ov_load rfl Try.underlying64 rfl rfl (by exact hO30.cellL 0 rfl rfl)) ?_
     refine rl_v rfl rfl rfl (ov_len rfl Try.underlying64 rfl) <| rl_v rfl rfl rfl (ov_min rfl rfl rfl) <| rl_v rfl rfl rfl (ov_add rfl rfl rfl (by omega)) ?_
     refine rl_v rfl rfl rfl (ov_min rfl rfl rfl) <| rl_v rfl rfl rfl (ov_sliceH (sn) (s := 2) rfl Try.underlying64 (by kernel_rfl) rfl rfl (by omega) (by omega)) ?_
     refine rl_v rfl rfl rfl (ov_fieldS rfl Try.underlying66 rfl (fo := 0) rfl (by kernel_rfl) rfl) ?_
     refine rl_ow rfl (ow_storeL rfl rfl (by kernel_rfl) hO30 0 rfl rfl rfl rfl rfl) ?_
     rintro _ w32 ⟨rfl, hO33, hs34⟩
     have hput := rw_put X K2 hn (K2.la n) (K2.lp n) (K2.lb n) ⟨(X.lg n).recs.take sn, sn, 0, true⟩
     have hrm := rw_room5 (X := X) (K := K2) hn (a := K2.la n) (p := K2.lp n) (l := ⟨(X.lg n).recs.take sn, sn, 0, true⟩)
     have hcut := cut_row (hK2.lv n hn) hsl
     rw [K2.setL_self hn, cut_cells hsl] at hput
     rw [cut_cells hsl] at hrm
     have hres : X.crash n s = (X.setLg n ⟨(X.lg n).recs.take sn, sn, 0, true⟩).start n := by unfold MW.crash; dsimp only; rw [hsn]
     refine rl_nil <| run_seq <| run_region <| rl_v rfl rfl rfl (ov_move rfl rfl) <| rl_v rfl rfl rfl (ov_fieldS rfl Try.underlying66 rfl (fo := 0) rfl (by kernel_rfl) rfl) ?_
     refine rl_v rfl rfl rfl (ov_load rfl Try.underlying64 rfl rfl (by exact hO33.cellL 0 rfl rfl)) ?_
     refine rl_v rfl rfl rfl (ov_fieldS rfl Try.underlying66 rfl (fo := 0) rfl (by kernel_rfl) rfl) ?_
     refine rl_v rfl rfl rfl (ov_load rfl Try.underlying64 rfl rfl (by exact hO33.cellL 0 rfl rfl)) ?_
     refine rl_v rfl rfl rfl (ov_len rfl Try.underlying64 rfl) <| rl_v rfl rfl rfl (ov_buildL rfl lay_66 rfl (us := [_, _, _, _, _]) rfl) <| rl_v rfl rfl rfl (ov_fieldS rfl Try.underlying69 rfl (fo := 7) rfl (by kernel_rfl) rfl) ?_
     refine rl_v rfl rfl rfl (ov_indexA rfl Try.underlying67 (by kernel_rfl) (s := 5) rfl rfl ⟨by omega, by omega⟩) ?_
     refine rl_ow rfl (ow_storeP (us := [.slice (K2.la n) sn (K2.lp n), iv sn, .bool true, .bool false, iv 0]) rfl rfl (by kernel_rfl) hO33 2 rfl rfl hrm rfl rfl hput) ?_
     rintro _ w35 ⟨rfl, hO36, hs37⟩
     refine rl_nil <| run_seq <| run_seq <| run_region <| rl_v rfl rfl rfl (ov_move rfl rfl) <| rl_v rfl rfl rfl (ov_eql rfl rfl rfl) <| rl_nil ?_
     first | refine run_cond_dec rfl (fun z1 => ?_) (fun z2 => ?_) | refine run_cond rfl (fun z1 => ?_) (fun z2 => ?_)
     ·subst z1
      refine run_region <| rl_v rfl rfl rfl (ov_fieldS rfl Try.underlying69 rfl (fo := 5) rfl (by kernel_rfl) rfl) ?_
      refine rl_v rfl rfl rfl (ov_load rfl Try.underlying62 rfl rfl (by exact hO36.cellL 2 rfl rfl)) ?_
      refine rl_v rfl rfl rfl (ov_len rfl Try.underlying62 rfl) <| rl_ow rfl (ow_makeS X.deals.length (tkl Ds.z) rfl rfl rfl Try.underlying62 info_127 rfl rfl hO36 rfl rfl rfl rfl ⟨by omega, by omega⟩) ?_
      rintro _ w38 ⟨bt, ct, rfl, hO39, hrt, hs40⟩
      refine rl_v rfl rfl rfl (ov_fieldS rfl Try.underlying69 rfl (fo := 5) rfl (by kernel_rfl) rfl) ?_
      refine rl_ow rfl (ow_storeL rfl rfl (by kernel_rfl) hO39 3 rfl rfl rfl rfl rfl) ?_
      rintro _ w41 ⟨rfl, hO42, hs43⟩
      refine rl_nil <| run_seq <| run_region <| rl_v rfl rfl rfl (ov_loadW rfl Try.underlying69 rfl (by kernel_rfl) rfl hO42 3 rfl) ?_
      refine rl_ow rfl (ow_storeW rfl rfl (by kernel_rfl) hO42 2 rfl rfl (by rfl) rfl (by rfl)) ?_
      rintro _ w44 ⟨rfl, hO45, hs46⟩
      have hOf := ((hO45.sub (.cons_cons _ (.cons _ (.cons _ (.cons _ (.refl _)))))).perm ((List.perm_append_comm (l₁ := H) (l₂ := K2.M)).cons ct)).swap
      have hOg := (hOf.sub (.cons_cons _ (.cons_cons _ (.cons _ (.refl _))))).perm (List.perm_append_comm (l₁ := (K2.setT (some ⟨bt, 0, none⟩) X.deals.length ct).M))
      have hK3 : ROk N (X.setLg 0 ⟨(X.lg 0).recs.take sn, sn, 0, true⟩) (K2.setT (some ⟨bt, 0, none⟩) X.deals.length ct) := by
       have := hK2.logged' hn hcut (ta := some ⟨bt, 0, none⟩) (tc := X.deals.length) (ct := ct) (hrt.congr fun i _ _ => by unfold tk tks; rw [if_pos (show (X.setLg 0 ⟨(X.lg 0).recs.take sn, sn, 0, true⟩).c.down = true from rfl)])
       rwa [K2.setL_self hn] at this
      refine rl_v rfl rfl rfl (ov_assign rfl rfl) <| rl_nil <| run_ret Try.func67 (resW2 Try.results67 rfl rfl Try.underlying69 rfl (by kernel_rfl) hO45 2 rfl) ?_
      exact ⟨_, by rw [if_pos hn, if_neg d2, if_neg hdb], by rw [if_pos ⟨hn, by omega, hdb⟩, hres]; exact RWt.out (RWt.start0 ⟨K2.setT (some ⟨bt, 0, none⟩) X.deals.length ct, rfl, hOg, hK3⟩ rfl)⟩
     ·have hK3 : ROk N (X.setLg n ⟨(X.lg n).recs.take sn, sn, 0, true⟩) K2 := by
       have := hK2.logged hn hcut (tk_down (Y := X.setLg n ⟨(X.lg n).recs.take sn, sn, 0, true⟩) (by rw [setLg_c z2]) (setLg_kn _ _ _))
       rwa [K2.setL_self hn] at this
      refine run_skip <| run_seq <| run_region <| rl_v rfl rfl rfl (ov_loadW rfl Try.underlying69 rfl (by kernel_rfl) rfl hO36 2 rfl) ?_
      refine rl_ow rfl (ow_storeW rfl rfl (by kernel_rfl) hO36 1 rfl rfl (by rfl) rfl (by rfl)) ?_
      rintro _ w47 ⟨rfl, hO48, hs49⟩
      refine rl_v rfl rfl rfl (ov_assign rfl rfl) <| rl_nil <| run_ret Try.func67 (resW2 Try.results67 rfl rfl Try.underlying69 rfl (by kernel_rfl) hO48 1 rfl) ?_
      exact ⟨_, by rw [if_pos hn, if_neg d2, if_neg hdb], by rw [if_pos ⟨hn, by omega, hdb⟩, hres, show ∀ Y : MW, Y.start n = Y from fun Y => by unfold MW.start; rw [if_neg z2]]; exact RWt.out ⟨K2, rfl, hO48.tail.tail.tail, hK3⟩⟩
   ·refine rl_gskip rfl rfl rfl rfl rfl rfl <| rl_gskip rfl rfl rfl rfl rfl rfl <| rl_gskip rfl rfl rfl rfl rfl rfl <| rl_gskip rfl rfl rfl rfl rfl rfl <| rl_gskip rfl rfl rfl rfl rfl rfl <| rl_gskip rfl rfl rfl rfl rfl rfl <| rl_v rfl rfl rfl (ov_pick_f rfl rfl rfl) <| rl_nil <| run_cond_f rfl ?_
    have hdb : ¬ ((X.lg n).down = true ∧ (X.lg n).safe = (X.lg n).recs.length) := fun h => by rw [h.1] at q1; exact Bool.noConfusion q1
    refine run_skip <| run_seq <| run_region <| rl_v rfl rfl rfl (ov_loadW rfl Try.underlying69 rfl (by kernel_rfl) rfl hO5 1 rfl) ?_
    refine rl_call callable_80 rfl rfl rfl rfl rfl rfl (rfork_any X K B N _ w0 w8 hG (by omega) hO5 (mem_c1 (mem_c1 hN)) hK) (fun e50 w51 hp52 => ?_)
    obtain ⟨v20, rfl, K2, rfl, hO2, hK2⟩ := hp52
    refine ⟨_, rfl, ?_⟩
    refine rl_ow rfl (ow_storeW rfl rfl (by kernel_rfl) hO2 1 rfl rfl (by rfl) rfl (by rfl)) ?_
    rintro _ w53 ⟨rfl, hO54, hs55⟩
    refine rl_nil <| run_seq <| run_region <| rl_v rfl rfl rfl (ov_move rfl rfl) <| rl_v rfl rfl rfl (ov_fieldS rfl Try.underlying69 rfl (fo := 7) rfl (by kernel_rfl) rfl) ?_
    refine rl_v rfl rfl rfl (ov_indexA rfl Try.underlying67 (by kernel_rfl) (s := 5) rfl rfl ⟨by omega, by omega⟩) ?_
    refine rl_v rfl rfl rfl (ov_loadN rfl Try.underlying66 rfl (by kernel_rfl) rfl ((hO54.rangeT 1 rfl _ (rw_nodes X K2 hn)))) ?_
    refine rl_ow rfl (ow_alloc _ rfl rfl rfl zero_66 rfl hO54) ?_
    rintro _ w56 ⟨b8, rfl, hO57, hs58⟩
    refine rl_ow rfl (ow_storeW rfl rfl (by kernel_rfl) hO57 0 rfl rfl (by rfl) rfl (by rfl)) ?_
    rintro _ w59 ⟨rfl, hO60, hs61⟩
    generalize hsn : ((X.lg n).safe + min s ((X.lg n).recs.length - (X.lg n).safe)).toNat = sn
    have hsl : sn ≤ (X.lg n).recs.length := by omega
    have hfit := SRow.fits (hK2.lv n hn)
    refine rl_nil <| run_seq <| run_region <| rl_v rfl rfl rfl (ov_fieldS rfl Try.underlying66 rfl (fo := 0) rfl (by kernel_rfl) rfl) ?_
    refine rl_v rfl rfl rfl (ov_load rfl Try.underlying64 rfl rfl (by exact hO60.cellL 0 rfl rfl)) ?_
    refine rl_v rfl rfl rfl (ov_fieldS rfl Try.underlying66 rfl (fo := 0) rfl (by kernel_rfl) rfl) ?_
    refine rl_v rfl rfl rfl (ov_load rfl Try.underlying64 rfl rfl (by exact hO60.cellL 0 rfl rfl)) ?_
    refine rl_v rfl rfl rfl (ov_len rfl Try.underlying64 rfl) <| rl_v rfl rfl rfl (ov_fieldS rfl Try.underlying66 rfl (fo := 1) rfl (by kernel_rfl) rfl) ?_
    refine rl_v rfl rfl rfl (ov_load rfl Try.underlying3 rfl rfl (by exact hO60.cellL 0 rfl rfl)) ?_
    refine rl_v rfl rfl rfl (ov_move rfl rfl) <| rl_v rfl rfl rfl (ov_fieldS rfl Try.underlying66 rfl (fo := 0) rfl (by kernel_rfl) rfl) ?_
    refine rl_v rfl rfl rfl (ov_load rfl Try.underlying64 rfl rfl (by exact hO60.cellL 0 rfl rfl)) ?_
    refine rl_v rfl rfl rfl (ov_len rfl Try.underlying64 rfl) <| rl_v rfl rfl rfl (ov_min rfl rfl rfl) <| rl_v rfl rfl rfl (ov_add rfl rfl rfl (by omega)) ?_
    refine rl_v rfl rfl rfl (ov_min rfl rfl rfl) <| rl_v rfl rfl rfl (ov_sliceH (sn) (s := 2) rfl Try.underlying64 (by kernel_rfl) rfl rfl (by omega) (by omega)) ?_
    refine rl_v rfl rfl rfl (ov_fieldS rfl Try.underlying66 rfl (fo := 0) rfl (by kernel_rfl) rfl) ?_
    refine rl_ow rfl (ow_storeL rfl rfl (by kernel_rfl) hO60 0 rfl rfl rfl rfl rfl) ?_
    rintro _ w62 ⟨rfl, hO63, hs64⟩
    have hput := rw_put X K2 hn (K2.la n) (K2.lp n) (K2.lb n) ⟨(X.lg n).recs.take sn, sn, 0, true⟩
    have hrm := rw_room5 (X := X) (K := K2) hn (a := K2.la n) (p := K2.lp n) (l := ⟨(X.lg n).recs.take sn, sn, 0, true⟩)
    have hcut := cut_row (hK2.lv n hn) hsl
    rw [K2.setL_self hn, cut_cells hsl] at hput
    rw [cut_cells hsl] at hrm
    have hres : X.crash n s = (X.setLg n ⟨(X.lg n).recs.take sn, sn, 0, true⟩).start n := by unfold MW.crash; dsimp only; rw [hsn]
    refine rl_nil <| run_seq <| run_region <| rl_v rfl rfl rfl (ov_move rfl rfl) <| rl_v rfl rfl rfl (ov_fieldS rfl Try.underlying66 rfl (fo := 0) rfl (by kernel_rfl) rfl) ?_
    refine rl_v rfl rfl rfl (ov_load rfl Try.underlying64 rfl rfl (by exact hO63.cellL 0 rfl rfl)) ?_
    refine rl_v rfl rfl rfl (ov_fieldS rfl Try.underlying66 rfl (fo := 0) rfl (by kernel_rfl) rfl) ?_
    refine rl_v rfl rfl rfl (ov_load rfl Try.underlying64 rfl rfl (by exact hO63.cellL 0 rfl rfl)) ?_
    refine rl_v rfl rfl rfl (ov_len rfl Try.underlying64 rfl) <| rl_v rfl rfl rfl (ov_buildL rfl lay_66 rfl (us := [_, _, _, _, _]) rfl) <| rl_v rfl rfl rfl (ov_fieldS rfl Try.underlying69 rfl (fo := 7) rfl (by kernel_rfl) rfl) ?_
    refine rl_v rfl rfl rfl (ov_indexA rfl Try.underlying67 (by kernel_rfl) (s := 5) rfl rfl ⟨by omega, by omega⟩) ?_
    refine rl_ow rfl (ow_storeP (us := [.slice (K2.la n) sn (K2.lp n), iv sn, .bool true, .bool false, iv 0]) rfl rfl (by kernel_rfl) hO63 2 rfl rfl hrm rfl rfl hput) ?_
    rintro _ w65 ⟨rfl, hO66, hs67⟩
    refine rl_nil <| run_seq <| run_seq <| run_region <| rl_v rfl rfl rfl (ov_move rfl rfl) <| rl_v rfl rfl rfl (ov_eql rfl rfl rfl) <| rl_nil ?_
    first | refine run_cond_dec rfl (fun z1 => ?_) (fun z2 => ?_) | refine run_cond rfl (fun z1 => ?_) (fun z2 => ?_)
    ·subst z1
     refine run_region <| rl_v rfl rfl rfl (ov_fieldS rfl Try.underlying69 rfl (fo := 5) rfl (by kernel_rfl) rfl) ?_
     refine rl_v rfl rfl rfl (ov_load rfl Try.underlying62 rfl rfl (by exact hO66.cellL 2 rfl rfl)) ?_
     refine rl_v rfl rfl rfl (ov_len rfl Try.underlying62 rfl) <| rl_ow rfl (ow_makeS X.deals.length (tkl Ds.z) rfl rfl rfl Try.underlying62 info_127 rfl rfl hO66 rfl rfl rfl rfl ⟨by omega, by omega⟩) ?_
     rintro _ w68 ⟨bt, ct, rfl, hO69, hrt, hs70⟩
     refine rl_v rfl rfl rfl (ov_fieldS rfl Try.underlying69 rfl (fo := 5) rfl (by kernel_rfl) rfl) ?_
     refine rl_ow rfl (ow_storeL rfl rfl (by kernel_rfl) hO69 3 rfl rfl rfl rfl rfl) ?_
     rintro _ w71 ⟨rfl, hO72, hs73⟩
     refine rl_nil <| run_seq <| run_region <| rl_v rfl rfl rfl (ov_loadW rfl Try.underlying69 rfl (by kernel_rfl) rfl hO72 3 rfl) ?_
     refine rl_ow rfl (ow_storeW rfl rfl (by kernel_rfl) hO72 2 rfl rfl (by rfl) rfl (by rfl)) ?_
     rintro _ w74 ⟨rfl, hO75, hs76⟩
     have hOf := ((hO75.sub (.cons_cons _ (.cons _ (.cons _ (.cons _ (.refl _)))))).perm ((List.perm_append_comm (l₁ := H) (l₂ := K2.M)).cons ct)).swap
     have hOg := (hOf.sub (.cons_cons _ (.cons_cons _ (.cons _ (.refl _))))).perm (List.perm_append_comm (l₁ := (K2.setT (some ⟨bt, 0, none⟩) X.deals.length ct).M))
     have hK3 : ROk N (X.setLg 0 ⟨(X.lg 0).recs.take sn, sn, 0, true⟩) (K2.setT (some ⟨bt, 0, none⟩) X.deals.length ct) := by
      have := hK2.logged' hn hcut (ta := some ⟨bt, 0, none⟩) (tc := X.deals.length) (ct := ct) (hrt.congr fun i _ _ => by unfold tk tks; rw [if_pos (show (X.setLg 0 ⟨(X.lg 0).recs.take sn, sn, 0, true⟩).c.down = true from rfl)])
      rwa [K2.setL_self hn] at this
     refine rl_v rfl rfl rfl (ov_assign rfl rfl) <| rl_nil <| run_ret Try.func67 (resW2 Try.results67 rfl rfl Try.underlying69 rfl (by kernel_rfl) hO75 2 rfl) ?_
     exact ⟨_, by rw [if_pos hn, if_neg d2, if_neg hdb], by rw [if_pos ⟨hn, by omega, hdb⟩, hres]; exact RWt.out (RWt.start0 ⟨K2.setT (some ⟨bt, 0, none⟩) X.deals.length ct, rfl, hOg, hK3⟩ rfl)⟩
    ·have hK3 : ROk N (X.setLg n ⟨(X.lg n).recs.take sn, sn, 0, true⟩) K2 := by
      have := hK2.logged hn hcut (tk_down (Y := X.setLg n ⟨(X.lg n).recs.take sn, sn, 0, true⟩) (by rw [setLg_c z2]) (setLg_kn _ _ _))
      rwa [K2.setL_self hn] at this
     refine run_skip <| run_seq <| run_region <| rl_v rfl rfl rfl (ov_loadW rfl Try.underlying69 rfl (by kernel_rfl) rfl hO66 2 rfl) ?_
     refine rl_ow rfl (ow_storeW rfl rfl (by kernel_rfl) hO66 1 rfl rfl (by rfl) rfl (by rfl)) ?_
     rintro _ w77 ⟨rfl, hO78, hs79⟩
     refine rl_v rfl rfl rfl (ov_assign rfl rfl) <| rl_nil <| run_ret Try.func67 (resW2 Try.results67 rfl rfl Try.underlying69 rfl (by kernel_rfl) hO78 1 rfl) ?_
     exact ⟨_, by rw [if_pos hn, if_neg d2, if_neg hdb], by rw [if_pos ⟨hn, by omega, hdb⟩, hres, show ∀ Y : MW, Y.start n = Y from fun Y => by unfold MW.start; rw [if_neg z2]]; exact RWt.out ⟨K2, rfl, hO78.tail.tail.tail, hK3⟩⟩
end Go.Proofs.Yteagflekbbchhaa
