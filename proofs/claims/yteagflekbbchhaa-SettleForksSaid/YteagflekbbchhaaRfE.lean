import Derived.Test.YteagflekbbchhaaRfD
set_option maxRecDepth 100000
namespace Go.Proofs.Yteagflekbbchhaa
open Go.RowKit Go.Proofs
set_option maxHeartbeats 1600000 in
theorem settleForks_any (m p : Int) (a1 a2 lo mo : Option Addr) (n1 n2 c1 c2 ln lc mn mc : Nat) (G1 G2 : Int → Int) (S S2 : Acts) (w : World) (h1 : IAt w.heap.size w a1 n1 (fun i => iv (G1 i))) (h2 : IAt w.heap.size w a2 n2 (fun i => iv (G2 i))) (hl : SAt w.heap.size w lo 7 ln S.l) (hl2 : SAt w.heap.size w mo 7 mn S2.l) (hkp : ∀ i, S.kept i ≤ 9223372036854775807) (hkp2 : ∀ i, S2.kept i ≤ 9223372036854775807) (hmn : mn ≤ 9223372036854775807) :
  Calls Try.prog 12 #[.agg #[iv m, iv p, .slice a1 n1 c1, .slice a2 n2 c2], .slice lo ln lc, .slice mo mn mc] w fun e w' => e = .returned (.bool true) ∧ Below w.heap.size w w' := by
 obtain ⟨mb, moff, hma, hmrow⟩ := hl2.open (by decide)
 refine calls_of_run (F := [(0, _), (1, _), (2, _)]) Try.func12 rfl Try.ntmps12 rfl rfl <| run_seq <| run_region <| rl_ow rfl (ow_box _ rfl rfl rfl rfl rfl (Own.init w)) ?_
 rintro _ w1 ⟨b3, rfl, hO2, hs3⟩
 refine rl_v rfl rfl rfl (ov_assign rfl rfl) <| rl_nil <| run_seq <| run_region <| rl_v rfl rfl rfl (ov_loadW rfl Try.underlying24 rfl (by kernel_rfl) rfl hO2 0 rfl) ?_
 refine rl_call callable_13 rfl rfl rfl rfl rfl rfl (tame_any m p a1 a2 n1 n2 c1 c2 G1 G2 w.heap.size _ w w1 h1 h2 hO2) (fun e4 w5 hp6 => ?_)
 obtain ⟨mem, pat, f1, f2, v1, v2, k1, k2, rfl, hm, hp, hR1, hR2, ⟨hl1, hl2'⟩, hf1, hf2, hOt⟩ := hp6
 refine ⟨_, rfl, ?_⟩
 obtain ⟨s1, z1, rfl⟩ := hR1.val
 obtain ⟨s2, z2, rfl⟩ := hR2.val
 refine rl_v rfl rfl rfl (ov_move rfl rfl) ?_
 refine rl_call callable_28 rfl rfl rfl rfl rfl rfl (run_any (fun _ => True) (fun _ _ _ _ _ _ _ _ _ _ _ _ => trivial) mem pat f1 f2 s1 s2 lo z1 z2 ln lc w.heap.size 30 S k1 k2 _ w w5 trivial (by omega) hm (by omega) hl1 hl2' hf1 hf2 hR1 hR2 (by simp) (by simp) hl hkp hOt) (fun e7 w8 hp9 => ?_)
 obtain ⟨A, X, K, N, rfl, ⟨hX, _⟩, hW, hK⟩ := hp9
 refine ⟨_, rfl, ?_⟩
 have hG := hX.good
 have hL := hX.linv
 have hph := hX.phi
 have hbg : X.bag.length ≤ 4000000000000 := by unfold phi at hph; omega
 obtain ⟨RX, hRX⟩ : ∃ RX, RX = N ++ [k1, k2, some (lch b3 24 [iv m, iv p, .slice a1 n1 c1, .slice a2 n2 c2])] := ⟨_, rfl⟩
 rw [← hRX] at hW hK
 clear hRX
 obtain ⟨Kw, Nw, hO, hKw, hPl⟩ := hW.fr
 refine rl_v rfl rfl rfl (ov_move rfl rfl) <| rl_v rfl rfl rfl (ov_extract rfl rfl (by rfl)) ?_
 refine rl_v rfl rfl rfl (ov_extract rfl rfl (by rfl)) ?_
 refine rl_ow rfl (ow_alloc _ rfl rfl rfl zero_69 rfl hO) ?_
 rintro _ w10 ⟨b8, rfl, hO11, hs12⟩
 refine rl_v rfl rfl rfl (ov_assign rfl rfl) <| rl_ow rfl (ow_storeW rfl rfl (by kernel_rfl) hO11 0 rfl rfl (by rfl) rfl (by rfl)) ?_
 rintro _ w13 ⟨rfl, hO14, hs15⟩
 have hW8 := WAt.unfr (R := some (lch b8 69 (rwl X K)) :: RX) hO14 hKw hPl
 refine rl_nil <| run_seq <| run_seq <| run_region <| rl_v rfl rfl rfl (ov_move rfl rfl) <| rl_v rfl rfl rfl (ov_ptrnil rfl Try.underlying27 rfl) <| rl_nil <| run_cond_f rfl <| run_skip <| run_seq <| run_region <| rl_v rfl rfl rfl (ov_move rfl rfl) ?_
 refine rl_call callable_46 rfl rfl rfl rfl rfl rfl (fork_any A X w.heap.size _ w w13 hG hbg hW8) (fun e16 w17 hp18 => ?_)
 obtain ⟨A2, rfl, hV⟩ := hp18
 refine ⟨_, rfl, ?_⟩
 refine rl_v rfl rfl rfl (ov_assign rfl rfl) <| rl_nil <| run_seq <| run_seq <| run_region <| rl_v rfl rfl rfl (ov_move rfl rfl) <| rl_v rfl rfl rfl (ov_ptrnil rfl Try.underlying27 rfl) <| rl_v rfl rfl rfl (ov_move rfl rfl) <| rl_gv rfl rfl rfl rfl rfl (ov_move rfl rfl) <| rl_gv rfl rfl rfl rfl rfl (ov_loadW rfl Try.underlying69 rfl (by kernel_rfl) rfl (hV.own) 0 rfl) ?_
 refine rl_gcall callable_41 rfl rfl rfl rfl rfl rfl rfl rfl (shows2 A2 X A X K w.heap.size RX _ w w17 hG hL hbg (mem_c1 (fun x h => h)) hK hV.swap) (fun e19 w20 hp21 => ?_)
 obtain ⟨rfl, hV2⟩ := hp21
 refine ⟨_, rfl, ?_⟩
 refine rl_gv rfl rfl rfl rfl rfl (ov_not rfl rfl) <| rl_v rfl rfl rfl (ov_pick_f rfl rfl rfl) <| rl_nil <| run_cond_f rfl ?_
 obtain ⟨Ka, Kb, Nv, hOv, hKa, hKb⟩ := hV2.fr
 refine run_skip <| run_seq <| run_region <| rl_v rfl rfl rfl (ov_loadW rfl Try.underlying69 rfl (by kernel_rfl) rfl hOv 0 rfl) ?_
 refine rl_ow rfl (ow_alloc _ rfl rfl rfl zero_69 rfl hOv) ?_
 rintro _ w22 ⟨b10, rfl, hO23, hs24⟩
 refine rl_ow rfl (ow_storeW rfl rfl (by kernel_rfl) hO23 0 rfl rfl (by rfl) rfl (by rfl)) ?_
 rintro _ w25 ⟨rfl, hO26, hs27⟩
 have hVs := W2.unfr (R := some (lch b10 69 (rwl X K)) :: some (lch b8 69 (rwl X K)) :: RX) hO26 hKa hKb
 refine rl_v rfl rfl rfl (ov_assign rfl rfl) <| rl_nil <| run_seq <| run_seq <| run_region <| rl_v rfl rfl rfl (ov_assign rfl rfl) <| rl_nil <| run_block <| Run.keep [2, 7, 8, 9, 10, 11, 12] (F' := [(2, _), (7, _), (8, _), (9, _), (10, _), (11, _), (12, _)]) rfl <| run_loop4 (fun (i : Int) (Y : MW) (Ky : RK) (Ny : List (Option Blk)) => [(12, .int .i64 i), (11, .bool true)]) [2, 7, 8, 9, 10] (fun (i : Int) (Y : MW) (Ky : RK) (Ny : List (Option Blk)) (w28 : World) => 0 ≤ i ∧ i ≤ 15 ∧ LawR mem f1 f2 (12000000 + 120000 * i.toNat) Y ∧ XIn (Ny ++ RX) Y Ky ∧ W2 w.heap.size w w28 A2 Y A X (some (lch b10 69 (rwl Y Ky)) :: some (lch b8 69 (rwl X K)) :: (Ny ++ RX))) (fun (i : Int) (Y : MW) (Ky : RK) (Ny : List (Option Blk)) => (15 - i).toNat) (0) (X) (K) ([]) ?_ (And.intro (by exact slot_int rfl (by first | omega)) (And.intro (by rfl) (And.intro rfl (And.intro rfl (And.intro rfl (And.intro rfl (And.intro rfl trivial))))))) ?_
 ·exact ⟨by omega, by omega, hX, hK, hVs⟩
 intro i Y Ky Ny w28 hIw28 ih29
 obtain ⟨hi0, hi1, hY, hKY, hV⟩ := hIw28
 show Run _ _ _ _ [(12, _), (11, _), (2, _), (7, _), (8, _), (9, _), (10, _)] _ _
 refine run_seq <| run_seq <| run_region_join 45 (.bool (decide ((i < mn ∧ i < 15)))) [2, 7, 8, 9, 10, 11, 12] (fun hk30 => ?_) ?_
 ·refine rl_v rfl rfl rfl (ov_move rfl rfl) <| rl_v rfl rfl rfl (ov_move rfl rfl) <| rl_v rfl rfl rfl (ov_len rfl Try.underlying46 rfl) <| rl_v rfl rfl rfl (ov_lss rfl rfl rfl) <| rl_v rfl rfl rfl (ov_move rfl rfl) ?_
  first | refine rl_split_dec 39 rfl (fun hg31 => ?_) (fun hg31 => ?_) | refine rl_split 39 rfl (fun hg31 => ?_) (fun hg31 => ?_)
  ·refine rl_gv rfl rfl rfl rfl rfl (ov_move rfl rfl) <| rl_gv rfl rfl rfl rfl rfl (ov_lss rfl rfl rfl) <| rl_v rfl rfl rfl (ov_pick_t rfl rfl rfl) <| rl_v rfl rfl rfl (ov_move rfl rfl) ?_
   first | refine rl_split_dec 43 rfl (fun hg32 => ?_) (fun hg32 => ?_) | refine rl_split 43 rfl (fun hg32 => ?_) (fun hg32 => ?_)
   ·refine rl_gv rfl rfl rfl rfl rfl (ov_move rfl rfl) <| rl_v rfl rfl rfl (ov_pick_t rfl rfl rfl) ?_
    refine rl_nil (hk30 _ (jbt rfl (by omega)) (And.intro rfl (And.intro rfl (And.intro rfl (And.intro rfl (And.intro rfl (And.intro rfl (And.intro rfl trivial))))))))
   ·refine rl_gskip rfl rfl rfl rfl rfl rfl <| rl_v rfl rfl rfl (ov_pick_f rfl rfl rfl) ?_
    refine rl_nil (hk30 _ (jbf rfl (by omega)) (And.intro rfl (And.intro rfl (And.intro rfl (And.intro rfl (And.intro rfl (And.intro rfl (And.intro rfl trivial))))))))
  ·refine rl_gskip rfl rfl rfl rfl rfl rfl <| rl_gskip rfl rfl rfl rfl rfl rfl <| rl_v rfl rfl rfl (ov_pick_f rfl rfl rfl) <| rl_v rfl rfl rfl (ov_move rfl rfl) <| rl_gskip rfl rfl rfl rfl rfl rfl <| rl_v rfl rfl rfl (ov_pick_f rfl rfl rfl) ?_
   refine rl_nil (hk30 _ (jbf rfl (by omega)) (And.intro rfl (And.intro rfl (And.intro rfl (And.intro rfl (And.intro rfl (And.intro rfl (And.intro rfl trivial))))))))
 ·show Run _ _ _ _ [(45, _), (2, _), (7, _), (8, _), (9, _), (10, _), (11, _), (12, _)] _ _
  first | refine run_cond_dec rfl (fun q => ?_) (fun qn => ?_) | refine run_cond rfl (fun q => ?_) (fun qn => ?_)
  ·obtain ⟨Ka, Kb, Nv, hOv, hKa, hKb⟩ := hV.fr
   refine run_skip <| run_seq <| run_block <| run_held (fun w' => Own w.heap.size w w' ([])) mixed ?_
   have hO34 := hOv.drew
   generalize World.drew w28 = w33 at hO34 ⊢
   have hS35 : Own w.heap.size w w33 ([]) := by exact hO34.sub (List.nil_sublist _)
   refine rh_v 0 rfl (by kernel_rfl) rfl rfl rfl hS35 (fun _ hS => ov_move rfl rfl) ?_
   refine rh_v 2 rfl (by kernel_rfl) rfl rfl rfl hS35 (fun _ hS => ov_move rfl rfl) ?_
   refine rh_v 3 rfl (by kernel_rfl) rfl rfl rfl hS35 (fun _ hS => ov_move rfl rfl) ?_
   refine rh_v 4 rfl (by kernel_rfl) rfl rfl rfl hS35 (fun _ hS => ov_index rfl Try.underlying46 (by kernel_rfl) (s := 7) rfl rfl ⟨by omega, by omega⟩ (by exact (hma (by omega)))) ?_
   refine rh_v 5 rfl (by kernel_rfl) rfl rfl rfl hS35 (fun _ hS => ov_loadE rfl Try.underlying51 rfl (by kernel_rfl) rfl ⟨by omega, by omega⟩ rfl (hmrow _ hS.below)) ?_
   refine rh_any1 1 (by kernel_rfl) ?_
   refine rc_op rfl rfl (ow_v rfl rfl (ov_loadW rfl Try.underlying69 rfl (by kernel_rfl) rfl hO34 0 rfl)) ?_
   rintro _ _ ⟨rfl, hw36⟩
   replace hw36 := hw36.symm; subst hw36
   refine ⟨hS35, ?_⟩
   refine rh_any1 6 (by kernel_rfl) ?_
   refine rc_op rfl rfl (ow_call2 callable_40 rfl rfl rfl rfl rfl (do2 [_, _] A2 Y A X Ky (S2.kind i) (S2.d i) (S2.n i) (S2.kept i) w.heap.size Ny RX w w33 (hkp2 i) hY.good hY.linv (by have := hY.phi; omega) hKY (W2.unfr (R := _ :: _ :: (Ny ++ RX)) hO34 hKa hKb)) (by intro e w' hp; obtain ⟨K2, N2, rfl, hV3, hK2⟩ := hp; exact ⟨_, rfl⟩)) ?_
   rintro _ w39 ⟨_, v37, he40, rfl, hp38⟩
   obtain ⟨K2, N2, rfl, hV3, hK2⟩ := hp38
   injection he40 with he40; subst he40
   obtain ⟨Kc, Kd, Nu, hOx, hKc, hKd⟩ := hV3.fr
   have hS41 : Own w.heap.size w w39 ([]) := by exact hOx.sub (List.nil_sublist _)
   refine ⟨hS41, ?_⟩
   refine rh_v 7 rfl (by kernel_rfl) rfl rfl rfl hS41 (fun _ hS => ov_move rfl rfl) ?_
   refine rh_v 8 rfl (by kernel_rfl) rfl rfl rfl hS41 (fun _ hS => ov_extract rfl rfl (by rfl)) ?_
   refine rh_v 9 rfl (by kernel_rfl) rfl rfl rfl hS41 (fun _ hS => ov_extract rfl rfl (by rfl)) ?_
   refine rh_any1 10 (by kernel_rfl) ?_
   refine rc_op rfl rfl (ow_storeW rfl rfl (by kernel_rfl) hOx 0 rfl rfl (by rfl) rfl (by rfl)) ?_
   rintro _ w42 ⟨rfl, hO43, hs44⟩
   have hS45 : Own w.heap.size w w42 ([]) := by exact hO43.sub (List.nil_sublist _)
   refine ⟨hS45, ?_⟩
   have hY2 := hY.step (S2.kind i) (S2.d i) (S2.n i) (S2.kept i) (hkp2 i)
   have hVz := W2.unfr (R := some (lch b10 69 (rwl (Y.step (S2.kind i) (S2.d i) (S2.n i) (S2.kept i)) K2)) :: some (lch b8 69 (rwl X K)) :: (N2 ++ RX)) hO43 hKc hKd
   refine rh_v 11 rfl (by kernel_rfl) rfl rfl rfl hS45 (fun _ hS => ov_assign rfl rfl) ?_
   refine rh_done (by kernel_rfl) ?_
   refine run_inBlock <| run_region <| rl_v rfl rfl rfl (ov_move rfl rfl) <| rl_v rfl rfl rfl (ov_add rfl rfl rfl (by omega)) ?_
   refine rl_v rfl rfl rfl (ov_assign rfl rfl) <| rl_nil ?_
   refine Run.use (ih29 (i + 1) (Y.step (S2.kind i) (S2.d i) (S2.n i) (S2.kept i)) (K2) (N2) _ ?_ ?_) (And.intro (by exact slot_int rfl (by first | omega)) (And.intro (by rfl) (And.intro rfl (And.intro rfl (And.intro rfl (And.intro rfl (And.intro rfl trivial)))))))
   ·first | omega | (dsimp only; omega)
   ·exact ⟨by omega, by omega, by rw [show 12000000 + 120000 * (i + 1).toNat = 12000000 + 120000 * i.toNat + 120000 by omega]; exact hY2, hK2, hVz⟩
  ·have hbY : Y.bag.length ≤ 4000000000000 := by have := hY.phi; unfold phi at this; omega
   refine run_exit rfl <| run_seq <| run_seq <| run_region <| rl_v rfl rfl rfl (ov_move rfl rfl) <| rl_v rfl rfl rfl (ov_not rfl rfl) <| rl_v rfl rfl rfl (ov_move rfl rfl) <| rl_gv rfl rfl rfl rfl rfl (ov_move rfl rfl) <| rl_gv rfl rfl rfl rfl rfl (ov_loadW rfl Try.underlying69 rfl (by kernel_rfl) rfl (hV.own) 0 rfl) ?_
   refine rl_gcall callable_41 rfl rfl rfl rfl rfl rfl rfl rfl (shows2 A2 Y A X Ky w.heap.size (Ny ++ RX) _ w w28 hY.good hY.linv hbY (mem_c1 (mem_c1 (fun x h => h))) hKY hV) (fun e46 w47 hp48 => ?_)
   obtain ⟨rfl, hV4⟩ := hp48
   refine ⟨_, rfl, ?_⟩
   refine rl_gv rfl rfl rfl rfl rfl (ov_not rfl rfl) <| rl_v rfl rfl rfl (ov_pick_f rfl rfl rfl) <| rl_v rfl rfl rfl (ov_move rfl rfl) ?_
   first | refine rl_noD 66 rfl (rfl) ?_ | refine rl_no 66 rfl (rfl) ?_
   refine rl_gv rfl rfl rfl rfl rfl (ov_move rfl rfl) <| rl_gv rfl rfl rfl rfl rfl (ov_loadW rfl Try.underlying69 rfl (by kernel_rfl) rfl (hV4.own) 1 rfl) ?_
   refine rl_gcall callable_41 rfl rfl rfl rfl rfl rfl rfl rfl (shows2 A X A2 Y K w.heap.size RX _ w w47 hG hL hbg (mem_c1 (mem_c1 (fun x h => List.mem_append_right _ h))) hK hV4.swap) (fun e49 w50 hp51 => ?_)
   obtain ⟨rfl, hV5⟩ := hp51
   refine ⟨_, rfl, ?_⟩
   refine rl_gv rfl rfl rfl rfl rfl (ov_not rfl rfl) <| rl_v rfl rfl rfl (ov_pick_f rfl rfl rfl) <| rl_nil <| run_cond_f rfl ?_
   obtain ⟨RY, hRY⟩ : ∃ RY, RY = Ny ++ RX := ⟨_, rfl⟩
   have hKX : XIn RY X K := hK.mono fun x hx => by rw [hRY]; exact List.mem_append_right _ hx
   rw [← hRY] at hV5 hKY
   clear hRY
   obtain ⟨Ka, Kb, Nv, hOv, hKa, hKb⟩ := hV5.fr
   refine run_skip <| run_seq <| run_region <| rl_v rfl rfl rfl (ov_loadW rfl Try.underlying69 rfl (by kernel_rfl) rfl hOv 1 rfl) ?_
   refine rl_ow rfl (ow_alloc _ rfl rfl rfl zero_69 rfl hOv) ?_
   rintro _ w52 ⟨b13, rfl, hO53, hs54⟩
   refine rl_ow rfl (ow_storeW rfl rfl (by kernel_rfl) hO53 0 rfl rfl (by rfl) rfl (by rfl)) ?_
   rintro _ w55 ⟨rfl, hO56, hs57⟩
   have hVs2 := W2.unfr (R := some (lch b13 69 (rwl X K)) :: some (lch b10 69 (rwl Y Ky)) :: some (lch b8 69 (rwl X K)) :: RY) hO56 hKa hKb
   refine rl_nil <| run_seq <| run_seq <| run_region <| rl_v rfl rfl rfl (ov_move rfl rfl) <| rl_v rfl rfl rfl (ov_len rfl Try.underlying46 rfl) <| rl_v rfl rfl rfl (ov_sub rfl rfl rfl (by omega)) ?_
   refine rl_v rfl rfl rfl (ov_assign rfl rfl) <| rl_nil <| run_block <| Run.keep [2, 7, 9, 10, 11, 13, 14] (F' := [(2, _), (7, _), (9, _), (10, _), (11, _), (13, _), (14, _)]) rfl <| run_loop4 (fun (i : Int) (Z : MW) (Kz : RK) (Nz : List (Option Blk)) => [(14, .int .i64 i), (11, .bool true)]) [2, 7, 9, 10, 13] (fun (i : Int) (Z : MW) (Kz : RK) (Nz : List (Option Blk)) (w58 : World) => -1 ≤ i ∧ (mn : Int) - 12 ≤ i ∧ i ≤ (mn : Int) - 1 ∧ LawR mem f1 f2 (12000000 + 120000 * ((mn : Int) - 1 - i).toNat) Z ∧ XIn (Nz ++ RY) Z Kz ∧ W2 w.heap.size w w58 A Z A2 Y (some (lch b13 69 (rwl Z Kz)) :: some (lch b10 69 (rwl Y Ky)) :: some (lch b8 69 (rwl X K)) :: (Nz ++ RY))) (fun (i : Int) (Z : MW) (Kz : RK) (Nz : List (Option Blk)) => (i + 1).toNat) ((mn : Int) - 1) (X) (K) ([]) ?_ (And.intro (by exact slot_int rfl (by first | omega)) (And.intro (by rfl) (And.intro rfl (And.intro rfl (And.intro rfl (And.intro rfl (And.intro rfl trivial))))))) ?_
   ·exact ⟨by omega, by omega, by omega, hX.mono (by omega), hKX, hVs2⟩
   intro i Z Kz Nz w58 hIw58 ih59
   obtain ⟨hi0, hi1, hi2, hZ, hKZ, hV⟩ := hIw58
   show Run _ _ _ _ [(14, _), (11, _), (2, _), (7, _), (9, _), (10, _), (13, _)] _ _
   refine run_seq <| run_seq <| run_region_join 87 (.bool (decide ((0 ≤ i ∧ (mn : Int) - 12 < i)))) [2, 7, 9, 10, 11, 13, 14] (fun hk60 => ?_) ?_
   ·refine rl_v rfl rfl rfl (ov_move rfl rfl) <| rl_v rfl rfl rfl (ov_geq rfl rfl rfl) <| rl_v rfl rfl rfl (ov_move rfl rfl) ?_
    first | refine rl_split_dec 78 rfl (fun hg61 => ?_) (fun hg61 => ?_) | refine rl_split 78 rfl (fun hg61 => ?_) (fun hg61 => ?_)
    ·refine rl_gv rfl rfl rfl rfl rfl (ov_move rfl rfl) <| rl_gv rfl rfl rfl rfl rfl (ov_move rfl rfl) <| rl_gv rfl rfl rfl rfl rfl (ov_len rfl Try.underlying46 rfl) <| rl_gv rfl rfl rfl rfl rfl (ov_sub rfl rfl rfl (by omega)) ?_
     refine rl_gv rfl rfl rfl rfl rfl (ov_gtr rfl rfl rfl) <| rl_v rfl rfl rfl (ov_pick_t rfl rfl rfl) <| rl_v rfl rfl rfl (ov_move rfl rfl) ?_
     first | refine rl_split_dec 85 rfl (fun hg62 => ?_) (fun hg62 => ?_) | refine rl_split 85 rfl (fun hg62 => ?_) (fun hg62 => ?_)
     ·refine rl_gv rfl rfl rfl rfl rfl (ov_move rfl rfl) <| rl_v rfl rfl rfl (ov_pick_t rfl rfl rfl) ?_
      refine rl_nil (hk60 _ (jbt rfl (by omega)) (And.intro rfl (And.intro rfl (And.intro rfl (And.intro rfl (And.intro rfl (And.intro rfl (And.intro rfl trivial))))))))
     ·refine rl_gskip rfl rfl rfl rfl rfl rfl <| rl_v rfl rfl rfl (ov_pick_f rfl rfl rfl) ?_
      refine rl_nil (hk60 _ (jbf rfl (by omega)) (And.intro rfl (And.intro rfl (And.intro rfl (And.intro rfl (And.intro rfl (And.intro rfl (And.intro rfl trivial))))))))
    ·refine rl_gskip rfl rfl rfl rfl rfl rfl <| rl_gskip rfl rfl rfl rfl rfl rfl <| rl_gskip rfl rfl rfl rfl rfl rfl <| rl_gskip rfl rfl rfl rfl rfl rfl <| rl_gskip rfl rfl rfl rfl rfl rfl <| rl_v rfl rfl rfl (ov_pick_f rfl rfl rfl) <| rl_v rfl rfl rfl (ov_move rfl rfl) <| rl_gskip rfl rfl rfl rfl rfl rfl <| rl_v rfl rfl rfl (ov_pick_f rfl rfl rfl) ?_
     refine rl_nil (hk60 _ (jbf rfl (by omega)) (And.intro rfl (And.intro rfl (And.intro rfl (And.intro rfl (And.intro rfl (And.intro rfl (And.intro rfl trivial))))))))
   ·show Run _ _ _ _ [(87, _), (2, _), (7, _), (9, _), (10, _), (11, _), (13, _), (14, _)] _ _
    first | refine run_cond_dec rfl (fun q => ?_) (fun qn => ?_) | refine run_cond rfl (fun q => ?_) (fun qn => ?_)
    ·obtain ⟨Ka, Kb, Nv, hOv, hKa, hKb⟩ := hV.fr
     refine run_skip <| run_seq <| run_block <| run_held (fun w' => Own w.heap.size w w' ([])) mixed ?_
     have hO64 := hOv.drew
     generalize World.drew w58 = w63 at hO64 ⊢
     have hS65 : Own w.heap.size w w63 ([]) := by exact hO64.sub (List.nil_sublist _)
     refine rh_v 0 rfl (by kernel_rfl) rfl rfl rfl hS65 (fun _ hS => ov_move rfl rfl) ?_
     refine rh_v 2 rfl (by kernel_rfl) rfl rfl rfl hS65 (fun _ hS => ov_move rfl rfl) ?_
     refine rh_v 3 rfl (by kernel_rfl) rfl rfl rfl hS65 (fun _ hS => ov_move rfl rfl) ?_
     refine rh_v 4 rfl (by kernel_rfl) rfl rfl rfl hS65 (fun _ hS => ov_index rfl Try.underlying46 (by kernel_rfl) (s := 7) rfl rfl ⟨by omega, by omega⟩ (by exact (hma (by omega)))) ?_
     refine rh_v 5 rfl (by kernel_rfl) rfl rfl rfl hS65 (fun _ hS => ov_loadE rfl Try.underlying51 rfl (by kernel_rfl) rfl ⟨by omega, by omega⟩ rfl (hmrow _ hS.below)) ?_
     refine rh_any1 1 (by kernel_rfl) ?_
     refine rc_op rfl rfl (ow_v rfl rfl (ov_loadW rfl Try.underlying69 rfl (by kernel_rfl) rfl hO64 0 rfl)) ?_
     rintro _ _ ⟨rfl, hw66⟩
     replace hw66 := hw66.symm; subst hw66
     refine ⟨hS65, ?_⟩
     refine rh_any1 6 (by kernel_rfl) ?_
     refine rc_op rfl rfl (ow_call2 callable_40 rfl rfl rfl rfl rfl (do2 [_, _, _] A Z A2 Y Kz (S2.kind i) (S2.d i) (S2.n i) (S2.kept i) w.heap.size Nz RY w w63 (hkp2 i) hZ.good hZ.linv (by have := hZ.phi; omega) hKZ (W2.unfr (R := _ :: _ :: _ :: (Nz ++ RY)) hO64 hKa hKb)) (by intro e w' hp; obtain ⟨K2, N2, rfl, hV3, hK2⟩ := hp; exact ⟨_, rfl⟩)) ?_
     rintro _ w69 ⟨_, v67, he70, rfl, hp68⟩
     obtain ⟨K2, N2, rfl, hV3, hK2⟩ := hp68
     injection he70 with he70; subst he70
     obtain ⟨Kc, Kd, Nu, hOx, hKc, hKd⟩ := hV3.fr
     have hS71 : Own w.heap.size w w69 ([]) := by exact hOx.sub (List.nil_sublist _)
     refine ⟨hS71, ?_⟩
     refine rh_v 7 rfl (by kernel_rfl) rfl rfl rfl hS71 (fun _ hS => ov_move rfl rfl) ?_
     refine rh_v 8 rfl (by kernel_rfl) rfl rfl rfl hS71 (fun _ hS => ov_extract rfl rfl (by rfl)) ?_
     refine rh_v 9 rfl (by kernel_rfl) rfl rfl rfl hS71 (fun _ hS => ov_extract rfl rfl (by rfl)) ?_
     refine rh_any1 10 (by kernel_rfl) ?_
     refine rc_op rfl rfl (ow_storeW rfl rfl (by kernel_rfl) hOx 0 rfl rfl (by rfl) rfl (by rfl)) ?_
     rintro _ w72 ⟨rfl, hO73, hs74⟩
     have hS75 : Own w.heap.size w w72 ([]) := by exact hO73.sub (List.nil_sublist _)
     refine ⟨hS75, ?_⟩
     have hZ2 := hZ.step (S2.kind i) (S2.d i) (S2.n i) (S2.kept i) (hkp2 i)
     have hVz := W2.unfr (R := some (lch b13 69 (rwl (Z.step (S2.kind i) (S2.d i) (S2.n i) (S2.kept i)) K2)) :: some (lch b10 69 (rwl Y Ky)) :: some (lch b8 69 (rwl X K)) :: (N2 ++ RY)) hO73 hKc hKd
     refine rh_v 11 rfl (by kernel_rfl) rfl rfl rfl hS75 (fun _ hS => ov_assign rfl rfl) ?_
     refine rh_done (by kernel_rfl) ?_
     refine run_inBlock <| run_region <| rl_v rfl rfl rfl (ov_move rfl rfl) <| rl_v rfl rfl rfl (ov_sub rfl rfl rfl (by omega)) ?_
     refine rl_v rfl rfl rfl (ov_assign rfl rfl) <| rl_nil ?_
     refine Run.use (ih59 (i - 1) (Z.step (S2.kind i) (S2.d i) (S2.n i) (S2.kept i)) (K2) (N2) _ ?_ ?_) (And.intro (by exact slot_int rfl (by first | omega)) (And.intro (by rfl) (And.intro rfl (And.intro rfl (And.intro rfl (And.intro rfl (And.intro rfl trivial)))))))
     ·first | omega | (dsimp only; omega)
     ·exact ⟨by omega, by omega, by omega, by rw [show 12000000 + 120000 * ((mn : Int) - 1 - (i - 1)).toNat = 12000000 + 120000 * ((mn : Int) - 1 - i).toNat + 120000 by omega]; exact hZ2, hK2, hVz⟩
    ·have hbZ : Z.bag.length ≤ 4000000000000 := by have := hZ.phi; unfold phi at this; omega
     refine run_exit rfl <| run_seq <| run_region <| rl_v rfl rfl rfl (ov_move rfl rfl) <| rl_v rfl rfl rfl (ov_move rfl rfl) <| rl_gv rfl rfl rfl rfl rfl (ov_move rfl rfl) <| rl_gv rfl rfl rfl rfl rfl (ov_loadW rfl Try.underlying69 rfl (by kernel_rfl) rfl (hV.own) 0 rfl) ?_
     refine rl_gcall callable_41 rfl rfl rfl rfl rfl rfl rfl rfl (shows2 A Z A2 Y Kz w.heap.size (Nz ++ RY) _ w w58 hZ.good hZ.linv hbZ (mem_c1 (mem_c1 (mem_c1 (fun x h => h)))) hKZ hV) (fun e76 w77 hp78 => ?_)
     obtain ⟨rfl, hV6⟩ := hp78
     refine ⟨_, rfl, ?_⟩
     refine rl_v rfl rfl rfl (ov_pick_t rfl rfl rfl) <| rl_v rfl rfl rfl (ov_move rfl rfl) ?_
     first | refine rl_yesD 106 rfl (rfl) ?_ | refine rl_yes 106 rfl (rfl) ?_
     refine rl_gv rfl rfl rfl rfl rfl (ov_move rfl rfl) <| rl_gv rfl rfl rfl rfl rfl (ov_loadW rfl Try.underlying69 rfl (by kernel_rfl) rfl (hV6.own) 1 rfl) ?_
     refine rl_gcall callable_41 rfl rfl rfl rfl rfl rfl rfl rfl (shows2 A2 Y A Z Ky w.heap.size RY _ w w77 hY.good hY.linv hbY (mem_c1 (mem_c1 (mem_c1 (fun x h => List.mem_append_right _ h)))) hKY hV6.swap) (fun e79 w80 hp81 => ?_)
     obtain ⟨rfl, hV7⟩ := hp81
     refine ⟨_, rfl, ?_⟩
     refine rl_v rfl rfl rfl (ov_pick_t rfl rfl rfl) <| rl_v rfl rfl rfl (ov_move rfl rfl) ?_
     first | refine rl_yesD 111 rfl (rfl) ?_ | refine rl_yes 111 rfl (rfl) ?_
     refine rl_gcall callable_20 rfl rfl rfl rfl rfl rfl rfl rfl (awake_any w.heap.size _ w w80 hV7.own) (fun e82 w83 hp84 => ?_)
     obtain ⟨rfl, hOe⟩ := hp84
     refine ⟨_, rfl, ?_⟩
     refine rl_v rfl rfl rfl (ov_pick_t rfl rfl rfl) <| rl_v rfl rfl rfl (ov_assign rfl rfl) <| rl_nil <| run_ret Try.func12 (res1 Try.results12 rfl) ?_
     exact ⟨rfl, hOe.below⟩
end Go.Proofs.Yteagflekbbchhaa
