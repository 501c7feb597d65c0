import Derived.Test.YteagflekbbchhaaReS
import Derived.Test.YteagflekbbchhaaReL
set_option maxRecDepth 100000
namespace Go.Proofs.Yteagflekbbchhaa
open Go.RowKit Go.Proofs
theorem settleRuns_any (m p : Int) (a1 a2 lo : Option Addr) (n1 n2 c1 c2 ln lc : Nat) (G1 G2 : Int → Int) (S : Acts) (w : World) (h1 : IAt w.heap.size w a1 n1 (fun i => iv (G1 i))) (h2 : IAt w.heap.size w a2 n2 (fun i => iv (G2 i))) (hl : SAt w.heap.size w lo 7 ln S.l) (hkp : ∀ i, S.kept i ≤ 9223372036854775807) :
  Calls Try.prog 8 #[.agg #[iv m, iv p, .slice a1 n1 c1, .slice a2 n2 c2], .slice lo ln lc] w fun e w' => e = .returned (.bool true) ∧ Below w.heap.size w w' := by
 obtain ⟨lb, loff, hla, hrow⟩ := hl.open (by decide)
 refine calls_of_run (F := [(0, _), (1, _)]) Try.func8 rfl Try.ntmps8 rfl rfl <| run_seq <| run_region <| rl_ow rfl (ow_box _ rfl rfl rfl rfl rfl (Own.init w)) ?_
 rintro _ w1 ⟨b2, rfl, hO2, hs3⟩
 refine rl_v rfl rfl rfl (ov_assign rfl rfl) <| rl_nil <| run_seq <| run_region <| rl_v rfl rfl rfl (ov_loadW rfl Try.underlying24 rfl (by kernel_rfl) rfl hO2 0 rfl) ?_
 refine rl_call callable_13 rfl rfl rfl rfl rfl rfl (tame_any m p a1 a2 n1 n2 c1 c2 G1 G2 w.heap.size _ w w1 h1 h2 hO2) (fun e4 w5 hp6 => ?_)
 obtain ⟨mem, pat, f1, f2, v1, v2, k1, k2, rfl, hm, hp, hR1, hR2, ⟨hl1, hl2⟩, hf1, hf2, hOt⟩ := hp6
 refine ⟨_, rfl, ?_⟩
 obtain ⟨s1, z1, rfl⟩ := hR1.val
 obtain ⟨s2, z2, rfl⟩ := hR2.val
 refine rl_ow rfl (ow_alloc _ rfl rfl rfl zero_24 rfl hOt) ?_
 rintro _ w7 ⟨b5, rfl, hO8, hs9⟩
 refine rl_ow rfl (ow_storeW rfl rfl (by kernel_rfl) hO8 0 rfl rfl (by rfl) rfl (by rfl)) ?_
 rintro _ w10 ⟨rfl, hO11, hs12⟩
 refine rl_nil <| run_seq <| run_region <| rl_v rfl rfl rfl (ov_loadW rfl Try.underlying24 rfl (by kernel_rfl) rfl hO11 0 rfl) ?_
 refine rl_call callable_15 rfl rfl rfl rfl rfl rfl (give_any mem pat s1 s2 f1.length f2.length z1 z2 w.heap.size _ w w10 hO11) (fun e13 w14 hp15 => ?_)
 obtain ⟨rfl, hOg⟩ := hp15
 refine ⟨_, rfl, ?_⟩
 refine rl_call callable_14 rfl rfl rfl rfl rfl rfl (newOk mem pat f1 f2 s1 s2 z1 z2 w.heap.size _ w w14 hOg (SrcI.of_row hR1 (k := 1) rfl) (SrcI.of_row hR2 (k := 2) rfl) (by omega) (by omega) hl1 hl2 (lt100 hf1) (lt100 hf2)) (fun e16 w17 hp18 => ?_)
 obtain ⟨A, rfl, hW⟩ := hp18
 refine ⟨_, rfl, ?_⟩
 obtain ⟨Kw, Nw, hO, hKw, hPl⟩ := hW.fr
 refine rl_v rfl rfl rfl (ov_move rfl rfl) <| rl_v rfl rfl rfl (ov_extract rfl rfl (by rfl)) ?_
 refine rl_v rfl rfl rfl (ov_extract rfl rfl (by rfl)) ?_
 refine rl_v rfl rfl rfl (ov_assign rfl rfl) <| rl_v rfl rfl rfl (ov_assign rfl rfl) <| rl_nil <| run_seq <| run_region <| rl_v rfl rfl rfl (ov_loadW rfl Try.underlying24 rfl (by kernel_rfl) rfl hO 0 rfl) ?_
 refine rl_call callable_39 rfl rfl rfl rfl rfl rfl (rnew_any mem pat f1 f2 s1 s2 z1 z2 w.heap.size _ w w17 hO) (fun e19 w20 hp21 => ?_)
 obtain ⟨rfl, hOn⟩ := hp21
 refine ⟨_, rfl, ?_⟩
 refine rl_ow rfl (ow_alloc _ rfl rfl rfl zero_69 rfl hOn) ?_
 rintro _ w22 ⟨b8, rfl, hO23, hs24⟩
 refine rl_ow rfl (ow_storeW rfl rfl (by kernel_rfl) hO23 0 rfl rfl (by rfl) rfl (by rfl)) ?_
 rintro _ w25 ⟨rfl, hO26, hs27⟩
 refine rl_nil <| run_seq <| run_seq <| run_region <| rl_v rfl rfl rfl (ov_move rfl rfl) <| rl_v rfl rfl rfl (ov_neq rfl rfl rfl) <| rl_v rfl rfl rfl (ov_move rfl rfl) ?_
 first | refine rl_split_dec 24 rfl (fun g1 => ?_) (fun g1 => ?_) | refine rl_split 24 rfl (fun g1 => ?_) (fun g1 => ?_)
 ·refine rl_gskip rfl rfl rfl rfl rfl rfl <| rl_gskip rfl rfl rfl rfl rfl rfl <| rl_v rfl rfl rfl (ov_pick_t rfl rfl rfl) <| rl_nil ?_
  exfalso; exact g1 rfl
 ·refine rl_gv rfl rfl rfl rfl rfl (ov_move rfl rfl) <| rl_gv rfl rfl rfl rfl rfl (ov_ptrnil rfl Try.underlying27 rfl) <| rl_v rfl rfl rfl (ov_pick_f rfl rfl rfl) <| rl_nil <| run_cond_f rfl ?_
  have hW8 := WAt.unfr (R := [_, _, _, _, _]) hO26 hKw hPl
  obtain ⟨RR, hRR⟩ : ∃ RR, RR = [some (lch b5 24 [iv mem, iv pat, .slice s1 f1.length z1, .slice s2 f2.length z2]), k1, k2, some (lch b2 24 [iv m, iv p, .slice a1 n1 c1, .slice a2 n2 c2])] := ⟨_, rfl⟩
  have hk1 : k1 ∈ RR := by rw [hRR]; simp
  have hk2 : k2 ∈ RR := by rw [hRR]; simp
  replace hW8 : WAt w.heap.size w w25 A (MW.init mem pat f1 f2) [] (some (lch b8 69 (rwl (MW.init mem pat f1 f2) (RK.new s1 z1 s2 z2))) :: ([] ++ RR)) := by rw [hRR]; exact hW8
  clear hRR
  refine run_skip <| run_seq <| run_seq <| run_region <| rl_v rfl rfl rfl (ov_assign rfl rfl) <| rl_nil <| run_block <| Run.keep [1, 6, 8, 9] (F' := [(1, _), (6, _), (8, _), (9, _)]) rfl <| run_loop4 (fun (i : Int) (X : MW) (K : RK) (N : List (Option Blk)) => [(9, .int .i64 i)]) [1, 6, 8] (fun (i : Int) (X : MW) (K : RK) (N : List (Option Blk)) (w29 : World) => 0 ≤ i ∧ i ≤ 60 ∧ LawR mem f1 f2 (120000 * i.toNat) X ∧ XIn (N ++ RR) X K ∧ WAt w.heap.size w w29 A X [] (some (lch b8 69 (rwl X K)) :: (N ++ RR))) (fun (i : Int) (X : MW) (K : RK) (N : List (Option Blk)) => (60 - i).toNat) (0) (MW.init mem pat f1 f2) (RK.new s1 z1 s2 z2) ([]) ?_ (And.intro (by exact slot_int rfl (by first | omega)) (And.intro rfl (And.intro rfl (And.intro rfl trivial)))) ?_
  ·exact ⟨by omega, by omega, LawR.init hm (by omega) hl1 hl2 hf1 hf2, XIn.new hR1 hR2 hk1 hk2, hW8⟩
  intro i X K N w29 hIw29 ih30
  obtain ⟨hi0, hi1, hX, hK, hW⟩ := hIw29
  show Run _ _ _ _ [(9, _), (1, _), (6, _), (8, _)] _ _
  refine run_seq <| run_seq <| run_region_join 35 (.bool (decide (i < ln ∧ i < 60))) [1, 6, 8, 9] (fun hk31 => ?_) ?_
  ·refine rl_v rfl rfl rfl (ov_move rfl rfl) <| rl_v rfl rfl rfl (ov_move rfl rfl) <| rl_v rfl rfl rfl (ov_len rfl Try.underlying46 rfl) <| rl_v rfl rfl rfl (ov_lss rfl rfl rfl) <| rl_v rfl rfl rfl (ov_move rfl rfl) ?_
   first | refine rl_split_dec 32 rfl (fun q1 => ?_) (fun q1 => ?_) | refine rl_split 32 rfl (fun q1 => ?_) (fun q1 => ?_)
   ·refine rl_gv rfl rfl rfl rfl rfl (ov_move rfl rfl) <| rl_gv rfl rfl rfl rfl rfl (ov_lss rfl rfl rfl) <| rl_v rfl rfl rfl (ov_pick_t rfl rfl rfl) ?_
    refine rl_nil (hk31 _ (jbd rfl (by omega)) (And.intro rfl (And.intro rfl (And.intro rfl (And.intro rfl trivial)))))
   ·refine rl_gskip rfl rfl rfl rfl rfl rfl <| rl_gskip rfl rfl rfl rfl rfl rfl <| rl_v rfl rfl rfl (ov_pick_f rfl rfl rfl) ?_
    refine rl_nil (hk31 _ (jbf rfl (by omega)) (And.intro rfl (And.intro rfl (And.intro rfl (And.intro rfl trivial)))))
  ·show Run _ _ _ _ [(35, _), (1, _), (6, _), (8, _), (9, _)] _ _
   first | refine run_cond_dec rfl (fun q => ?_) (fun qn => ?_) | refine run_cond rfl (fun q => ?_) (fun qn => ?_)
   ·obtain ⟨Kw, Nw, hOw, hKw, hPl⟩ := hW.fr
    have hX2 := hX.step (S.kind i) (S.d i) (S.n i) (S.kept i) (hkp i)
    refine run_skip <| run_seq <| run_block <| run_seq <| run_held (fun w' => Own w.heap.size w w' ([some (lch b8 69 (rwl X K))])) mixed ?_
    have hO34 := hOw.drew
    generalize World.drew w29 = w33 at hO34 ⊢
    have hS35 : Own w.heap.size w w33 ([some (lch b8 69 (rwl X K))]) := by first | exact hO34.sub (.cons_cons _ (List.nil_sublist _)) | exact hO34.sub (.cons _ (.cons_cons _ (List.nil_sublist _)))
    refine rh_v 0 rfl (by kernel_rfl) rfl rfl rfl hS35 (fun _ hS => ov_move rfl rfl) ?_
    refine rh_v 1 rfl (by kernel_rfl) rfl rfl rfl hS35 (fun _ hS => ov_loadW rfl Try.underlying69 rfl (by kernel_rfl) rfl hS 0 rfl) ?_
    refine rh_v 2 rfl (by kernel_rfl) rfl rfl rfl hS35 (fun _ hS => ov_move rfl rfl) ?_
    refine rh_v 3 rfl (by kernel_rfl) rfl rfl rfl hS35 (fun _ hS => ov_move rfl rfl) ?_
    refine rh_v 4 rfl (by kernel_rfl) rfl rfl rfl hS35 (fun _ hS => ov_index rfl Try.underlying46 (by kernel_rfl) (s := 7) rfl rfl ⟨by omega, by omega⟩ (by exact (hla (by omega)))) ?_
    refine rh_v 5 rfl (by kernel_rfl) rfl rfl rfl hS35 (fun _ hS => ov_loadE rfl Try.underlying51 rfl (by kernel_rfl) rfl ⟨by omega, by omega⟩ rfl (hrow _ hS.below)) ?_
    refine rh_any2 6 10 (by kernel_rfl) ?_ ?_
    ·refine rc_op rfl rfl (ow_call2 callable_40 rfl rfl rfl rfl rfl (do_at [_] A X K (S.kind i) (S.d i) (S.n i) (S.kept i) w.heap.size N [] RR w w33 (hkp i) hX.good hX.linv (by have := hX.phi; omega) hK (WAt.unfr (R := _ :: (N ++ RR)) hO34 hKw hPl)) (by intro e w' hp; obtain ⟨K2, N2, rfl, hW2, hK2⟩ := hp; exact ⟨_, rfl⟩)) ?_
     rintro _ w38 ⟨_, v36, he39, rfl, hp37⟩
     obtain ⟨K2, N2, rfl, hW2, hK2⟩ := hp37
     injection he39 with he39; subst he39
     obtain ⟨Kw2, Nw2, hOx, hKw2, hPl2⟩ := hW2.fr
     have hS40 : Own w.heap.size w w38 ([some (lch b8 69 (rwl X K))]) := by first | exact hOx.sub (.cons_cons _ (List.nil_sublist _)) | exact hOx.sub (.cons _ (.cons_cons _ (List.nil_sublist _)))
     refine ⟨hS40, ?_⟩
     refine rh_v 7 rfl (by kernel_rfl) rfl rfl rfl hS40 (fun _ hS => ov_move rfl rfl) ?_
     refine rh_v 8 rfl (by kernel_rfl) rfl rfl rfl hS40 (fun _ hS => ov_extract rfl rfl (by rfl)) ?_
     refine rh_v 9 rfl (by kernel_rfl) rfl rfl rfl hS40 (fun _ hS => ov_extract rfl rfl (by rfl)) ?_
     refine rh_any1 10 (by kernel_rfl) ?_
     refine rc_op rfl rfl (ow_alloc _ rfl rfl rfl zero_69 rfl hOx) ?_
     rintro _ w41 ⟨b10, rfl, hO42, hs43⟩
     have hS44 : Own w.heap.size w w41 ([some (lch b8 69 (rwl X K))]) := by first | exact hO42.sub (.cons_cons _ (List.nil_sublist _)) | exact hO42.sub (.cons _ (.cons_cons _ (List.nil_sublist _)))
     refine ⟨hS44, ?_⟩
     refine rh_any1 11 (by kernel_rfl) ?_
     refine rc_op rfl rfl (ow_storeW rfl rfl (by kernel_rfl) hO42 0 rfl rfl (by rfl) rfl (by rfl)) ?_
     rintro _ w45 ⟨rfl, hO46, hs47⟩
     have hS48 : Own w.heap.size w w45 ([some (lch b8 69 (rwl X K))]) := by first | exact hO46.sub (.cons_cons _ (List.nil_sublist _)) | exact hO46.sub (.cons _ (.cons_cons _ (List.nil_sublist _)))
     refine ⟨hS48, ?_⟩
     refine rh_v 12 rfl (by kernel_rfl) rfl rfl rfl hS48 (fun _ hS => ov_assign rfl rfl) ?_
     refine rh_done (by kernel_rfl) ?_
     refine run_seq <| run_region <| rl_v rfl rfl rfl (ov_loadW rfl Try.underlying69 rfl (by kernel_rfl) rfl hO46 0 rfl) ?_
     refine rl_ow rfl (ow_storeW rfl rfl (by kernel_rfl) hO46 1 rfl rfl (by rfl) rfl (by rfl)) ?_
     rintro _ w49 ⟨rfl, hO50, hs51⟩
     refine rl_nil <| run_seq <| run_region <| rl_v rfl rfl rfl (ov_move rfl rfl) <| rl_v rfl rfl rfl (ov_not rfl rfl) <| rl_v rfl rfl rfl (ov_move rfl rfl) ?_
     first | refine rl_noD 51 rfl (rfl) ?_ | refine rl_no 51 rfl (rfl) ?_
     refine rl_gv rfl rfl rfl rfl rfl (ov_move rfl rfl) <| rl_gv rfl rfl rfl rfl rfl (ov_loadW rfl Try.underlying69 rfl (by kernel_rfl) rfl hO50 1 rfl) ?_
     refine rl_gcall callable_41 rfl rfl rfl rfl rfl rfl rfl rfl (shows_any A (X.step (S.kind i) (S.d i) (S.n i) (S.kept i)) K2 w.heap.size (N2 ++ RR) _ w w49 hX2.good hX2.linv (by have := hX2.phi; unfold phi at this; omega) (mem_c1 (mem_c1 (fun x h => h))) hK2 (WAt.unfr (R := _ :: _ :: (N2 ++ RR)) hO50 hKw2 hPl2)) (fun e52 w53 hp54 => ?_)
     obtain ⟨rfl, hWs⟩ := hp54
     refine ⟨_, rfl, ?_⟩
     refine rl_gv rfl rfl rfl rfl rfl (ov_not rfl rfl) <| rl_v rfl rfl rfl (ov_pick_f rfl rfl rfl) <| rl_nil <| run_cond_f rfl <| run_skip <| run_inBlock <| run_region <| rl_v rfl rfl rfl (ov_move rfl rfl) <| rl_v rfl rfl rfl (ov_add rfl rfl rfl (by omega)) ?_
     refine rl_v rfl rfl rfl (ov_assign rfl rfl) <| rl_nil ?_
     refine Run.use (ih30 (i + 1) (X.step (S.kind i) (S.d i) (S.n i) (S.kept i)) (K2) (N2) _ ?_ ?_) (And.intro (by exact slot_int rfl (by first | omega)) (And.intro rfl (And.intro rfl (And.intro rfl trivial))))
     ·first | omega | (dsimp only; omega)
     ·exact ⟨by omega, by omega, by rw [show (i + 1).toNat = i.toNat + 1 by omega, Nat.mul_add]; exact hX2, hK2, hWs.drop⟩
    ·refine rc_op rfl rfl (ow_alloc _ rfl rfl rfl zero_69 rfl hO34) ?_
     rintro _ w55 ⟨b10, rfl, hO56, hs57⟩
     have hS58 : Own w.heap.size w w55 ([some (lch b8 69 (rwl X K))]) := by first | exact hO56.sub (.cons_cons _ (List.nil_sublist _)) | exact hO56.sub (.cons _ (.cons_cons _ (List.nil_sublist _)))
     refine ⟨hS58, ?_⟩
     refine rh_any1 6 (by kernel_rfl) ?_
     refine rc_op rfl rfl (ow_call2 callable_40 rfl rfl rfl rfl rfl (do_at [_, _] A X K (S.kind i) (S.d i) (S.n i) (S.kept i) w.heap.size N [] RR w w55 (hkp i) hX.good hX.linv (by have := hX.phi; omega) hK (WAt.unfr (R := _ :: _ :: (N ++ RR)) hO56 hKw hPl)) (by intro e w' hp; obtain ⟨K2, N2, rfl, hW2, hK2⟩ := hp; exact ⟨_, rfl⟩)) ?_
     rintro _ w61 ⟨_, v59, he62, rfl, hp60⟩
     obtain ⟨K2, N2, rfl, hW2, hK2⟩ := hp60
     injection he62 with he62; subst he62
     obtain ⟨Kw2, Nw2, hOx, hKw2, hPl2⟩ := hW2.fr
     have hS63 : Own w.heap.size w w61 ([some (lch b8 69 (rwl X K))]) := by first | exact hOx.sub (.cons_cons _ (List.nil_sublist _)) | exact hOx.sub (.cons _ (.cons_cons _ (List.nil_sublist _)))
     refine ⟨hS63, ?_⟩
     refine rh_v 7 rfl (by kernel_rfl) rfl rfl rfl hS63 (fun _ hS => ov_move rfl rfl) ?_
     refine rh_v 8 rfl (by kernel_rfl) rfl rfl rfl hS63 (fun _ hS => ov_extract rfl rfl (by rfl)) ?_
     refine rh_v 9 rfl (by kernel_rfl) rfl rfl rfl hS63 (fun _ hS => ov_extract rfl rfl (by rfl)) ?_
     refine rh_any1 11 (by kernel_rfl) ?_
     refine rc_op rfl rfl (ow_storeW rfl rfl (by kernel_rfl) hOx 0 rfl rfl (by rfl) rfl (by rfl)) ?_
     rintro _ w64 ⟨rfl, hO65, hs66⟩
     have hS67 : Own w.heap.size w w64 ([some (lch b8 69 (rwl X K))]) := by first | exact hO65.sub (.cons_cons _ (List.nil_sublist _)) | exact hO65.sub (.cons _ (.cons_cons _ (List.nil_sublist _)))
     refine ⟨hS67, ?_⟩
     refine rh_v 12 rfl (by kernel_rfl) rfl rfl rfl hS67 (fun _ hS => ov_assign rfl rfl) ?_
     refine rh_done (by kernel_rfl) ?_
     refine run_seq <| run_region <| rl_v rfl rfl rfl (ov_loadW rfl Try.underlying69 rfl (by kernel_rfl) rfl hO65 0 rfl) ?_
     refine rl_ow rfl (ow_storeW rfl rfl (by kernel_rfl) hO65 1 rfl rfl (by rfl) rfl (by rfl)) ?_
     rintro _ w68 ⟨rfl, hO69, hs70⟩
     refine rl_nil <| run_seq <| run_region <| rl_v rfl rfl rfl (ov_move rfl rfl) <| rl_v rfl rfl rfl (ov_not rfl rfl) <| rl_v rfl rfl rfl (ov_move rfl rfl) ?_
     first | refine rl_noD 51 rfl (rfl) ?_ | refine rl_no 51 rfl (rfl) ?_
     refine rl_gv rfl rfl rfl rfl rfl (ov_move rfl rfl) <| rl_gv rfl rfl rfl rfl rfl (ov_loadW rfl Try.underlying69 rfl (by kernel_rfl) rfl hO69 1 rfl) ?_
     refine rl_gcall callable_41 rfl rfl rfl rfl rfl rfl rfl rfl (shows_any A (X.step (S.kind i) (S.d i) (S.n i) (S.kept i)) K2 w.heap.size (N2 ++ RR) _ w w68 hX2.good hX2.linv (by have := hX2.phi; unfold phi at this; omega) (mem_c1 (mem_c1 (fun x h => h))) hK2 (WAt.unfr (R := _ :: _ :: (N2 ++ RR)) hO69 hKw2 hPl2)) (fun e71 w72 hp73 => ?_)
     obtain ⟨rfl, hWs⟩ := hp73
     refine ⟨_, rfl, ?_⟩
     refine rl_gv rfl rfl rfl rfl rfl (ov_not rfl rfl) <| rl_v rfl rfl rfl (ov_pick_f rfl rfl rfl) <| rl_nil <| run_cond_f rfl <| run_skip <| run_inBlock <| run_region <| rl_v rfl rfl rfl (ov_move rfl rfl) <| rl_v rfl rfl rfl (ov_add rfl rfl rfl (by omega)) ?_
     refine rl_v rfl rfl rfl (ov_assign rfl rfl) <| rl_nil ?_
     refine Run.use (ih30 (i + 1) (X.step (S.kind i) (S.d i) (S.n i) (S.kept i)) (K2) (N2) _ ?_ ?_) (And.intro (by exact slot_int rfl (by first | omega)) (And.intro rfl (And.intro rfl (And.intro rfl trivial))))
     ·first | omega | (dsimp only; omega)
     ·exact ⟨by omega, by omega, by rw [show (i + 1).toNat = i.toNat + 1 by omega, Nat.mul_add]; exact hX2, hK2, hWs.drop⟩
   ·refine run_exit rfl <| run_seq <| run_region ?_
    refine rl_call callable_20 rfl rfl rfl rfl rfl rfl (awake_any w.heap.size _ w w29 hW.own) (fun e74 w75 hp76 => ?_)
    obtain ⟨rfl, hOe⟩ := hp76
    refine ⟨_, rfl, ?_⟩
    refine rl_v rfl rfl rfl (ov_assign rfl rfl) <| rl_nil <| run_ret Try.func8 (res1 Try.results8 rfl) ?_
    exact ⟨rfl, hOe.below⟩
end Go.Proofs.Yteagflekbbchhaa
