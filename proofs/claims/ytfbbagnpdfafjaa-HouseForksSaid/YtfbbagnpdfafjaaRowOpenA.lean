import Derived.Test.YtfbbagnpdfafjaaHcT
import Derived.Test.YtfbbagnpdfafjaaEff
import Derived.Test.YtfbbagnpdfafjaaTab
import Derived.Test.YtfbbagnpdfafjaaChecked
import Derived.Test.YtfbbagnpdfafjaaRows
import Derived.ProofKit
import Derived.SizedLaws
import Derived.Deep.Modes
import Derived.Deep.Frames
import Derived.Deep.Matrix
import Derived.Carry
import Derived.Lib.SmallJoins
set_option maxRecDepth 100000
namespace Go.Proofs.Ytfbbagnpdfafjaa
open Go.RowKit Go.Proofs
set_option maxHeartbeats 4000000 in
theorem forks9_any (mm mn : Int) (pa ma la la2 : Option Addr) (pn pc mk mc ln lc ln2 lc2 : Nat) (rt cp : Int) (P0 : Int → Int) (L0 : Int → Nat) (F0 : Int → Int → Int) (S S2 : HActs) (w : World) (hP : IAt w.heap.size w pa pn (fun i => iv (P0 i))) (hT : ITab w.heap.size w ma mk L0 (fun r c => iv (F0 r c))) (hS : SAt w.heap.size w la 7 ln S.l) (hS2 : SAt w.heap.size w la2 7 ln2 S2.l) (hln2 : ln2 ≤ 9223372036854775807) :
  Calls Try.prog 11 #[.agg (cfL mm mn pa pn pc ma mk mc rt cp).toArray, .slice la ln lc, .slice la2 ln2 lc2] w fun e w' => e = .returned (.bool true) ∧ Below w.heap.size w w' := by
 obtain ⟨lb2, loff2, hla2, hrow2⟩ := hS2.open (by decide)
 refine calls_of_run (F := [(0, _), (1, _), (2, _)]) Try.func11 rfl Try.ntmps11 rfl rfl <| run_seq <| run_region <| rl_ow rfl (ow_box _ rfl rfl rfl rfl rfl (Own.init w)) ?_
 rintro _ w1 ⟨b3, rfl, hO2, hs3⟩
 refine rl_v rfl rfl rfl (ov_assign rfl rfl) <| rl_nil <| run_seq <| run_region <| rl_v rfl rfl rfl (ov_loadW rfl Try.underlying25 rfl (by kernel_rfl) rfl hO2 0 rfl) ?_
 refine rl_call callable_15 rfl rfl rfl rfl rfl rfl (tame_any mm mn pa ma pn pc mk mc rt cp P0 L0 F0 w.heap.size _ w w1 hO2 hP hT) (fun e4 w5 hp6 => ?_)
 obtain ⟨mem, mon, pa2, ma2, pc2, k2, mc2, P, F, rate, cap, N, rfl, hC, hO2⟩ := hp6
 refine ⟨_, rfl, ?_⟩
 have hmem := hC.hmem
 refine rl_v rfl rfl rfl (ov_move rfl rfl) ?_
 refine rl_call callable_16 rfl rfl rfl rfl rfl rfl (run_any mem mon pa2 ma2 la pc2 k2 mc2 ln lc P F rate cap 20 S N w.heap.size _ w w5 hO2 (List.sublist_append_left _ _) hC hS (by decide)) (fun e7 w8 hp9 => ?_)
 obtain ⟨hb, X, T, G, rfl, ⟨hX, hsm⟩, hI, hH0⟩ := hp9
 refine ⟨_, rfl, ?_⟩
 have hXG := hX.gg (by omega)
 have hG := hXG.g
 obtain ⟨X0, hX0⟩ : ∃ X0, X0 = HM.new mem mon k2 P F rate cap := ⟨_, rfl⟩
 rw [← hX0] at hsm
 have hm20 : ∀ Y : HM, Same Y X0 → Y.mem < 20 := fun Y h => by have := congrArg Prod.fst h.dim; rw [hX0] at this; have h2 : Y.mem = mem.toNat := this; omega
 obtain ⟨RR, hRR⟩ : ∃ RR, RR = T ++ (N ++ [some (lch b3 25 (cfL mm mn pa pn pc ma mk mc rt cp))]) := ⟨_, rfl⟩
 obtain ⟨TN, hTN⟩ : ∃ TN, TN = T ++ N := ⟨_, rfl⟩
 have hsI : TN.Sublist RR := by rw [hRR, hTN]; exact List.Sublist.append_left (List.sublist_append_left _ _) T
 replace hH0 : HAt w.heap.size w w8 hb X [] RR := by rw [hRR]; exact hH0
 replace hI : GIn TN X G := by rw [hTN]; exact hI
 clear hRR hTN
 obtain ⟨K1, N1, hO3, hK1, hP1⟩ := hH0.open
 refine rl_v rfl rfl rfl (ov_move rfl rfl) <| rl_v rfl rfl rfl (ov_extract rfl rfl (by rfl)) ?_
 refine rl_v rfl rfl rfl (ov_extract rfl rfl (by rfl)) ?_
 refine rl_ow rfl (ow_alloc _ rfl rfl rfl zero_34 rfl hO3) ?_
 rintro _ w10 ⟨b8, rfl, hO11, hs12⟩
 refine rl_v rfl rfl rfl (ov_assign rfl rfl) <| rl_ow rfl (ow_storeW rfl rfl (by kernel_rfl) hO11 0 rfl rfl (by rfl) rfl (by rfl)) ?_
 rintro _ w13 ⟨rfl, hO14, hs15⟩
 have hH1 : HAt w.heap.size w w13 hb X [] (some (lch b8 34 (ghL X G)) :: RR) := HAt.puts [some (lch b8 34 (ghL X G))] hO14 hK1 hP1
 refine rl_nil <| run_seq <| run_seq <| run_region <| rl_v rfl rfl rfl (ov_move rfl rfl) <| rl_v rfl rfl rfl (ov_ptrnil rfl Try.underlying30 rfl) <| rl_nil <| run_cond_f rfl <| run_skip <| run_seq <| run_region <| rl_v rfl rfl rfl (ov_move rfl rfl) ?_
 refine rl_call callable_42 rfl rfl rfl rfl rfl rfl (fork_any hb w.heap.size X [] _ w w13 hH1 hG) (fun e16 w17 hp18 => ?_)
 obtain ⟨hf, rfl, hW⟩ := hp18
 refine ⟨_, rfl, ?_⟩
 obtain ⟨L3, N3, hA3, hY3, hP3⟩ := hW.swap.left
 refine rl_v rfl rfl rfl (ov_assign rfl rfl) <| rl_nil <| run_seq <| run_seq <| run_region <| rl_v rfl rfl rfl (ov_move rfl rfl) <| rl_v rfl rfl rfl (ov_ptrnil rfl Try.underlying30 rfl) <| rl_v rfl rfl rfl (ov_move rfl rfl) <| rl_gv rfl rfl rfl rfl rfl (ov_move rfl rfl) <| rl_gv rfl rfl rfl rfl rfl (ov_loadW rfl Try.underlying34 rfl (by kernel_rfl) rfl (hA3.own) 2 rfl) ?_
 refine rl_gcall callable_35 rfl rfl rfl rfl rfl rfl rfl rfl (shows_any hf w.heap.size X G N3 TN _ w w17 hA3 hI (.cons _ (.cons _ (.cons _ hsI))) hXG) (fun e19 w20 hp21 => ?_)
 obtain ⟨rfl, hA4⟩ := hp21
 refine ⟨_, rfl, ?_⟩
 have hW2 := (W2H.of (T := []) hA4 hY3 hP3).swap
 refine rl_gv rfl rfl rfl rfl rfl (ov_not rfl rfl) <| rl_v rfl rfl rfl (ov_pick_f rfl rfl rfl) <| rl_nil <| run_cond_f rfl ?_
 obtain ⟨L4, N4, hA5, hY4, hP4⟩ := hW2.left
 obtain ⟨K5, M5, hO5, hK5, hQ5⟩ := hA5.open
 refine run_skip <| run_seq <| run_region <| rl_v rfl rfl rfl (ov_loadW rfl Try.underlying34 rfl (by kernel_rfl) rfl (hA5.own) 2 rfl) ?_
 refine rl_ow rfl (ow_alloc _ rfl rfl rfl zero_34 rfl hO5) ?_
 rintro _ w22 ⟨b10, rfl, hO23, hs24⟩
 refine rl_ow rfl (ow_storeW rfl rfl (by kernel_rfl) hO23 0 rfl rfl (by rfl) rfl (by rfl)) ?_
 rintro _ w25 ⟨rfl, hO26, hs27⟩
 have hA6 := HAt.puts [some (lch b10 34 (ghL X G))] hO26 hK5 hQ5
 have hW3 : W2H w.heap.size w w25 hb X hf X [] ([some (lch b10 34 (ghL X G)), some (lch b8 34 (ghL X G))] ++ RR) := W2H.of (T := [some (lch b10 34 (ghL X G))]) (R := some (lch b8 34 (ghL X G)) :: RR) hA6 hY4 hP4
 refine rl_v rfl rfl rfl (ov_assign rfl rfl) <| rl_nil <| run_seq <| run_seq <| run_region <| rl_v rfl rfl rfl (ov_assign rfl rfl) <| rl_nil <| run_block <| Run.keep [2, 7, 8, 9, 10, 11, 12] (F' := [(2, _), (7, _), (8, _), (9, _), (10, _), (11, _), (12, _)]) rfl <| run_loop4 (fun (i : Int) (Y : HM) (T2 : List (Option Blk)) (L : GK) => [(12, .int .i64 i), (11, .bool true)]) [2, 7, 8, 9, 10] (fun (i : Int) (Y : HM) (T2 : List (Option Blk)) (L : GK) (w28 : World) => (0 ≤ i ∧ i ≤ 10) ∧ HB (50 + i.toNat) Y ∧ Same Y X0 ∧ GIn (T2 ++ TN) Y L ∧ W2H w.heap.size w w28 hb X hf Y [] ([some (lch b10 34 (ghL Y L)), some (lch b8 34 (ghL X G))] ++ (T2 ++ RR))) (fun (i : Int) (Y : HM) (T2 : List (Option Blk)) (L : GK) => (10 - i).toNat) (0) (X) ([]) (G) ?_ (And.intro (by exact slot_int rfl (by first | omega)) (And.intro (by rfl) (And.intro rfl (And.intro rfl (And.intro rfl (And.intro rfl (And.intro rfl trivial))))))) ?_
 ·exact ⟨by omega, hX, hsm, hI, hW3⟩
 intro i Y T2 L w28 hIw28 ih29
 obtain ⟨hi, hY, hsmY, hIY, hWl⟩ := hIw28
 show Run _ _ _ _ [(12, _), (11, _), (2, _), (7, _), (8, _), (9, _), (10, _)] _ _
 refine run_seq <| run_seq <| run_region_join 45 (.bool (decide (i < ln2 ∧ i < 10))) [2, 7, 8, 9, 10, 11, 12] (fun hk30 => ?_) ?_
 ·refine rl_v rfl rfl rfl (ov_move rfl rfl) <| rl_v rfl rfl rfl (ov_move rfl rfl) <| rl_v rfl rfl rfl (ov_len rfl Try.underlying26 rfl) <| rl_v rfl rfl rfl (ov_lss rfl rfl rfl) <| rl_v rfl rfl rfl (ov_move rfl rfl) ?_
  first | refine rl_split_dec 39 rfl (fun j1 => ?_) (fun j1 => ?_) | refine rl_split 39 rfl (fun j1 => ?_) (fun j1 => ?_)
  ·refine rl_gv rfl rfl rfl rfl rfl (ov_move rfl rfl) <| rl_gv rfl rfl rfl rfl rfl (ov_lss rfl rfl rfl) <| rl_v rfl rfl rfl (ov_pick_t rfl rfl rfl) <| rl_v rfl rfl rfl (ov_move rfl rfl) ?_
   first | refine rl_split_dec 43 rfl (fun j2 => ?_) (fun j2 => ?_) | refine rl_split 43 rfl (fun j2 => ?_) (fun j2 => ?_)
   ·refine rl_gv rfl rfl rfl rfl rfl (ov_move rfl rfl) <| rl_v rfl rfl rfl (ov_pick_t rfl rfl rfl) ?_
    refine rl_nil (hk30 _ (jbt rfl (by omega)) (And.intro rfl (And.intro rfl (And.intro rfl (And.intro rfl (And.intro rfl (And.intro rfl (And.intro rfl trivial))))))))
   ·refine rl_gskip rfl rfl rfl rfl rfl rfl <| rl_v rfl rfl rfl (ov_pick_f rfl rfl rfl) ?_
    refine rl_nil (hk30 _ (jbf rfl (by omega)) (And.intro rfl (And.intro rfl (And.intro rfl (And.intro rfl (And.intro rfl (And.intro rfl (And.intro rfl trivial))))))))
  ·refine rl_gskip rfl rfl rfl rfl rfl rfl <| rl_gskip rfl rfl rfl rfl rfl rfl <| rl_v rfl rfl rfl (ov_pick_f rfl rfl rfl) <| rl_v rfl rfl rfl (ov_move rfl rfl) <| rl_gskip rfl rfl rfl rfl rfl rfl <| rl_v rfl rfl rfl (ov_pick_f rfl rfl rfl) ?_
   refine rl_nil (hk30 _ (jbf rfl (by omega)) (And.intro rfl (And.intro rfl (And.intro rfl (And.intro rfl (And.intro rfl (And.intro rfl (And.intro rfl trivial))))))))
 ·show Run _ _ _ _ [(45, _), (2, _), (7, _), (8, _), (9, _), (10, _), (11, _), (12, _)] _ _
  first | refine run_cond_dec rfl (fun h1 => ?_) (fun h1 => ?_) | refine run_cond rfl (fun h1 => ?_) (fun h1 => ?_)
  ·obtain ⟨L7, N7, hA7, hY7, hP7⟩ := hWl.swap.left
   obtain ⟨K8, M8, hO8, hK8, hQ8⟩ := HAt.pull (R := T2 ++ RR) [some (lch b10 34 (ghL Y L)), some (lch b8 34 (ghL X G))] [houB hb (X.r L7), L7.blk] hA7
   refine run_skip <| run_seq <| run_block <| run_held (fun w' => Own w.heap.size w w' ([])) mixed ?_
   have hO34 := hO8.drew
   generalize World.drew w28 = w33 at hO34 ⊢
   have hS35 : Own w.heap.size w w33 ([]) := by exact hO34.sub (List.nil_sublist _)
   refine rh_v 0 rfl (by kernel_rfl) rfl rfl rfl hS35 (fun _ hS => ov_move rfl rfl) ?_
   refine rh_v 2 rfl (by kernel_rfl) rfl rfl rfl hS35 (fun _ hS => ov_move rfl rfl) ?_
   refine rh_v 3 rfl (by kernel_rfl) rfl rfl rfl hS35 (fun _ hS => ov_move rfl rfl) ?_
   refine rh_v 4 rfl (by kernel_rfl) rfl rfl rfl hS35 (fun _ hS => ov_index rfl Try.underlying26 (by kernel_rfl) (s := 7) rfl rfl ⟨by omega, by omega⟩ (by exact (hla2 (by omega)))) ?_
   refine rh_v 5 rfl (by kernel_rfl) rfl rfl rfl hS35 (fun _ hS => ov_loadE rfl Try.underlying28 rfl (by kernel_rfl) rfl ⟨by omega, by omega⟩ rfl (hrow2 _ hS.below)) ?_
   refine rh_any1 1 (by kernel_rfl) ?_
   refine rc_op rfl rfl (ow_v rfl rfl (ov_loadW rfl Try.underlying34 rfl (by kernel_rfl) rfl hO34 0 rfl)) ?_
   rintro _ _ ⟨rfl, hw36⟩
   replace hw36 := hw36.symm; subst hw36
   refine ⟨hS35, ?_⟩
   refine rh_any1 6 (by kernel_rfl) ?_
   refine rc_op rfl rfl (ow_call2 callable_34 rfl rfl rfl rfl rfl (do_any hf w.heap.size Y L (S2.k i) (S2.a i) (S2.b i) (S2.m i) (S2.q i) (S2.p i) (S2.n i) N7 _ (T2 ++ TN) w w33 (50 + i.toNat) (HAt.puts (R := [houB hb (X.r L7), L7.blk] ++ (T2 ++ RR)) [some (lch b10 34 (ghL Y L)), some (lch b8 34 (ghL X G))] hO34 hK8 hQ8) hIY (.cons _ (.cons _ (.cons _ (.cons _ (List.Sublist.append_left hsI T2))))) hY (by omega) (hm20 Y hsmY)) (by intro e w' hp; obtain ⟨T5, L5, rfl, hI5, hA8⟩ := hp; exact ⟨_, rfl⟩)) ?_
   rintro _ w39 ⟨_, v37, he40, rfl, hp38⟩
   obtain ⟨T5, L5, rfl, hI5, hA8⟩ := hp38
   injection he40 with he40; subst he40
   have hYY := hY.dstep (by omega) (IntKind.u64.wrap (S2.k i) % 12) (S2.a i) (S2.b i) (S2.m i) (S2.q i) (S2.p i) (S2.n i)
   have hss := (dstep_same Y (IntKind.u64.wrap (S2.k i) % 12) (S2.a i) (S2.b i) (S2.m i) (S2.q i) (S2.p i) (S2.n i)).trans hsmY
   generalize Y.dstep (IntKind.u64.wrap (S2.k i) % 12) (S2.a i) (S2.b i) (S2.m i) (S2.q i) (S2.p i) (S2.n i) = Z at *
   obtain ⟨K9, M9, hO9, hK9, hQ9⟩ := HAt.pull (R := [houB hb (X.r L7), L7.blk] ++ (T2 ++ RR)) [some (lch b10 34 (ghL Y L)), some (lch b8 34 (ghL X G))] T5 hA8
   have hS41 : Own w.heap.size w w39 ([]) := by exact hO9.sub (List.nil_sublist _)
   refine ⟨hS41, ?_⟩
   refine rh_v 7 rfl (by kernel_rfl) rfl rfl rfl hS41 (fun _ hS => ov_move rfl rfl) ?_
   refine rh_v 8 rfl (by kernel_rfl) rfl rfl rfl hS41 (fun _ hS => ov_extract rfl rfl (by rfl)) ?_
   refine rh_v 9 rfl (by kernel_rfl) rfl rfl rfl hS41 (fun _ hS => ov_extract rfl rfl (by rfl)) ?_
   refine rh_any1 10 (by kernel_rfl) ?_
   refine rc_op rfl rfl (ow_storeW rfl rfl (by kernel_rfl) hO9 0 rfl rfl (by rfl) rfl (by rfl)) ?_
   rintro _ w42 ⟨rfl, hO43, hs44⟩
   have hS45 : Own w.heap.size w w42 ([]) := by exact hO43.sub (List.nil_sublist _)
   refine ⟨hS45, ?_⟩
   have hA9 : HAt w.heap.size w w42 hf Z N7 (([some (lch b10 34 (ghL Z L5)), some (lch b8 34 (ghL X G))] ++ T5) ++ (houB hb (X.r L7) :: L7.blk :: (T2 ++ RR))) := HAt.puts (R := T5 ++ ([houB hb (X.r L7), L7.blk] ++ (T2 ++ RR))) [some (lch b10 34 (ghL Z L5)), some (lch b8 34 (ghL X G))] hO43 hK9 hQ9
   have hW4 : W2H w.heap.size w w42 hb X hf Z [] ([some (lch b10 34 (ghL Z L5)), some (lch b8 34 (ghL X G))] ++ ((T5 ++ T2) ++ RR)) := by
    have h := (W2H.of hA9 hY7 hP7).swap
    rw [List.append_assoc]
    exact h
   refine rh_v 11 rfl (by kernel_rfl) rfl rfl rfl hS45 (fun _ hS => ov_assign rfl rfl) ?_
   refine rh_done (by kernel_rfl) ?_
   refine run_inBlock <| run_region <| rl_v rfl rfl rfl (ov_move rfl rfl) <| rl_v rfl rfl rfl (ov_add rfl rfl rfl (by omega)) ?_
   refine rl_v rfl rfl rfl (ov_assign rfl rfl) <| rl_nil ?_
   refine Run.use (ih29 (i + 1) (Z) (T5 ++ T2) (L5) _ ?_ ?_) (And.intro (by exact slot_int rfl (by first | omega)) (And.intro (by rfl) (And.intro rfl (And.intro rfl (And.intro rfl (And.intro rfl (And.intro rfl trivial)))))))
   ·first | omega | (dsimp only; omega)
   ·exact ⟨by omega, by rw [show 50 + (i + 1).toNat = 50 + i.toNat + 1 by omega]; exact hYY, hss, by rw [List.append_assoc]; exact hI5, hW4⟩
  ·have hYG := hY.gg (by omega)
   obtain ⟨R2, hR2⟩ : ∃ R2, R2 = T2 ++ RR := ⟨_, rfl⟩
   have hs2 : (T2 ++ TN).Sublist R2 := by rw [hR2]; exact List.Sublist.append_left hsI T2
   have hs0 : TN.Sublist (T2 ++ TN) := List.sublist_append_right _ _
   rw [← hR2] at hWl
   clear hR2
   replace hIY : GIn (T2 ++ TN) Y L := hIY
   have hIX : GIn (T2 ++ TN) X G := hI.sub hs0
   generalize T2 ++ TN = TN2 at *
   obtain ⟨L7, N7, hA7, hY7, hP7⟩ := hWl.swap.left
   refine run_exit rfl <| run_seq <| run_seq <| run_region <| rl_v rfl rfl rfl (ov_move rfl rfl) <| rl_v rfl rfl rfl (ov_not rfl rfl) <| rl_v rfl rfl rfl (ov_move rfl rfl) <| rl_gv rfl rfl rfl rfl rfl (ov_move rfl rfl) <| rl_gv rfl rfl rfl rfl rfl (ov_loadW rfl Try.underlying34 rfl (by kernel_rfl) rfl (hA7.own) 2 rfl) ?_
   refine rl_gcall callable_35 rfl rfl rfl rfl rfl rfl rfl rfl (shows_any hf w.heap.size Y L N7 TN2 _ w w28 hA7 hIY (.cons _ (.cons _ (.cons _ (.cons _ hs2)))) hYG) (fun e46 w47 hp48 => ?_)
   obtain ⟨rfl, hA8⟩ := hp48
   refine ⟨_, rfl, ?_⟩
   obtain ⟨L9, N9, hA9, hY9, hP9⟩ := (W2H.of (T := []) hA8 hY7 hP7).swap.left
   refine rl_gv rfl rfl rfl rfl rfl (ov_not rfl rfl) <| rl_v rfl rfl rfl (ov_pick_f rfl rfl rfl) <| rl_v rfl rfl rfl (ov_move rfl rfl) ?_
   first | refine rl_noD 66 rfl (rfl) ?_ | refine rl_no 66 rfl (rfl) ?_
   refine rl_gv rfl rfl rfl rfl rfl (ov_move rfl rfl) <| rl_gv rfl rfl rfl rfl rfl (ov_loadW rfl Try.underlying34 rfl (by kernel_rfl) rfl (hA9.own) 3 rfl) ?_
   refine rl_gcall callable_35 rfl rfl rfl rfl rfl rfl rfl rfl (shows_any hb w.heap.size X G N9 TN2 _ w w47 hA9 hIX (.cons _ (.cons _ (.cons _ (.cons _ hs2)))) hXG) (fun e49 w50 hp51 => ?_)
   obtain ⟨rfl, hA10⟩ := hp51
   refine ⟨_, rfl, ?_⟩
   obtain ⟨K11, M11, hO11, hK11, hQ11⟩ := hA10.open
   refine rl_gv rfl rfl rfl rfl rfl (ov_not rfl rfl) <| rl_v rfl rfl rfl (ov_pick_f rfl rfl rfl) <| rl_nil <| run_cond_f rfl <| run_skip <| run_seq <| run_region <| rl_v rfl rfl rfl (ov_loadW rfl Try.underlying34 rfl (by kernel_rfl) rfl (hA10.own) 3 rfl) ?_
   refine rl_ow rfl (ow_alloc _ rfl rfl rfl zero_34 rfl hO11) ?_
   rintro _ w52 ⟨b13, rfl, hO53, hs54⟩
   refine rl_ow rfl (ow_storeW rfl rfl (by kernel_rfl) hO53 0 rfl rfl (by rfl) rfl (by rfl)) ?_
   rintro _ w55 ⟨rfl, hO56, hs57⟩
   have hA12 := HAt.puts [some (lch b13 34 (ghL X G))] hO56 hK11 hQ11
   have hW5 : W2H w.heap.size w w55 hb X hf Y [] ([some (lch b13 34 (ghL X G)), some (lch b10 34 (ghL Y L)), some (lch b8 34 (ghL X G))] ++ R2) := W2H.of (T := [some (lch b13 34 (ghL X G))]) (R := [some (lch b10 34 (ghL Y L)), some (lch b8 34 (ghL X G))] ++ R2) hA12 hY9 hP9
   refine rl_nil <| run_seq <| run_seq <| run_region <| rl_v rfl rfl rfl (ov_move rfl rfl) <| rl_v rfl rfl rfl (ov_len rfl Try.underlying26 rfl) <| rl_v rfl rfl rfl (ov_sub rfl rfl rfl (by omega)) ?_
   refine rl_v rfl rfl rfl (ov_assign rfl rfl) <| rl_nil <| run_block <| Run.keep [2, 7, 9, 10, 11, 13, 14] (F' := [(2, _), (7, _), (9, _), (10, _), (11, _), (13, _), (14, _)]) rfl <| run_loop4 (fun (i : Int) (Z : HM) (T3 : List (Option Blk)) (G3 : GK) => [(14, .int .i64 i), (11, .bool true)]) [2, 7, 9, 10, 13] (fun (i : Int) (Z : HM) (T3 : List (Option Blk)) (G3 : GK) (w58 : World) => (-1 ≤ i ∧ i < ln2 ∧ (ln2 : Int) - 11 ≤ i) ∧ HB (50 + ((ln2 : Int) - 1 - i).toNat) Z ∧ Same Z X0 ∧ GIn (T3 ++ TN2) Z G3 ∧ W2H w.heap.size w w58 hb Z hf Y [] ([some (lch b13 34 (ghL Z G3)), some (lch b10 34 (ghL Y L)), some (lch b8 34 (ghL X G))] ++ (T3 ++ R2))) (fun (i : Int) (Z : HM) (T3 : List (Option Blk)) (G3 : GK) => (i + 1).toNat) ((ln2 : Int) - 1) (X) ([]) (G) ?_ (And.intro (by exact slot_int rfl (by first | omega)) (And.intro (by rfl) (And.intro rfl (And.intro rfl (And.intro rfl (And.intro rfl (And.intro rfl trivial))))))) ?_
   ·exact ⟨by omega, by rw [show ((ln2 : Int) - 1 - ((ln2 : Int) - 1)).toNat = 0 by omega]; exact hX, hsm, hIX, hW5⟩
   intro i Z T3 G3 w58 hIw58 ih59
   obtain ⟨hi9, hZ, hsmZ, hIZ, hWm⟩ := hIw58
   show Run _ _ _ _ [(14, _), (11, _), (2, _), (7, _), (9, _), (10, _), (13, _)] _ _
   refine run_seq <| run_seq <| run_region_join 87 (.bool (decide (0 ≤ i ∧ (ln2 : Int) - 10 < i))) [2, 7, 9, 10, 11, 13, 14] (fun hk60 => ?_) ?_
   ·refine rl_v rfl rfl rfl (ov_move rfl rfl) <| rl_v rfl rfl rfl (ov_geq rfl rfl rfl) <| rl_v rfl rfl rfl (ov_move rfl rfl) ?_
    first | refine rl_split_dec 78 rfl (fun j1 => ?_) (fun j1 => ?_) | refine rl_split 78 rfl (fun j1 => ?_) (fun j1 => ?_)
    ·refine rl_gv rfl rfl rfl rfl rfl (ov_move rfl rfl) <| rl_gv rfl rfl rfl rfl rfl (ov_move rfl rfl) <| rl_gv rfl rfl rfl rfl rfl (ov_len rfl Try.underlying26 rfl) <| rl_gv rfl rfl rfl rfl rfl (ov_sub rfl rfl rfl (by omega)) ?_
     refine rl_gv rfl rfl rfl rfl rfl (ov_gtr rfl rfl rfl) <| rl_v rfl rfl rfl (ov_pick_t rfl rfl rfl) <| rl_v rfl rfl rfl (ov_move rfl rfl) ?_
     first | refine rl_split_dec 85 rfl (fun j2 => ?_) (fun j2 => ?_) | refine rl_split 85 rfl (fun j2 => ?_) (fun j2 => ?_)
     ·refine rl_gv rfl rfl rfl rfl rfl (ov_move rfl rfl) <| rl_v rfl rfl rfl (ov_pick_t rfl rfl rfl) ?_
      refine rl_nil (hk60 _ (jbt rfl (by omega)) (And.intro rfl (And.intro rfl (And.intro rfl (And.intro rfl (And.intro rfl (And.intro rfl (And.intro rfl trivial))))))))
     ·refine rl_gskip rfl rfl rfl rfl rfl rfl <| rl_v rfl rfl rfl (ov_pick_f rfl rfl rfl) ?_
      refine rl_nil (hk60 _ (jbf rfl (by omega)) (And.intro rfl (And.intro rfl (And.intro rfl (And.intro rfl (And.intro rfl (And.intro rfl (And.intro rfl trivial))))))))
    ·refine rl_gskip rfl rfl rfl rfl rfl rfl <| rl_gskip rfl rfl rfl rfl rfl rfl <| rl_gskip rfl rfl rfl rfl rfl rfl <| rl_gskip rfl rfl rfl rfl rfl rfl <| rl_gskip rfl rfl rfl rfl rfl rfl <| rl_v rfl rfl rfl (ov_pick_f rfl rfl rfl) <| rl_v rfl rfl rfl (ov_move rfl rfl) <| rl_gskip rfl rfl rfl rfl rfl rfl <| rl_v rfl rfl rfl (ov_pick_f rfl rfl rfl) ?_
     refine rl_nil (hk60 _ (jbf rfl (by omega)) (And.intro rfl (And.intro rfl (And.intro rfl (And.intro rfl (And.intro rfl (And.intro rfl (And.intro rfl trivial))))))))
   ·show Run _ _ _ _ [(87, _), (2, _), (7, _), (9, _), (10, _), (11, _), (13, _), (14, _)] _ _
    first | refine run_cond_dec rfl (fun h2 => ?_) (fun h2 => ?_) | refine run_cond rfl (fun h2 => ?_) (fun h2 => ?_)
    ·obtain ⟨L7, N7, hA7, hY7, hP7⟩ := hWm.left
     obtain ⟨K8, M8, hO8, hK8, hQ8⟩ := HAt.pull (R := T3 ++ R2) [some (lch b13 34 (ghL Z G3)), some (lch b10 34 (ghL Y L)), some (lch b8 34 (ghL X G))] [houB hf (Y.r L7), L7.blk] hA7
     refine run_skip <| run_seq <| run_block <| run_held (fun w' => Own w.heap.size w w' ([])) mixed ?_
     have hO64 := hO8.drew
     generalize World.drew w58 = w63 at hO64 ⊢
     have hS65 : Own w.heap.size w w63 ([]) := by exact hO64.sub (List.nil_sublist _)
     refine rh_v 0 rfl (by kernel_rfl) rfl rfl rfl hS65 (fun _ hS => ov_move rfl rfl) ?_
     refine rh_v 2 rfl (by kernel_rfl) rfl rfl rfl hS65 (fun _ hS => ov_move rfl rfl) ?_
     refine rh_v 3 rfl (by kernel_rfl) rfl rfl rfl hS65 (fun _ hS => ov_move rfl rfl) ?_
     refine rh_v 4 rfl (by kernel_rfl) rfl rfl rfl hS65 (fun _ hS => ov_index rfl Try.underlying26 (by kernel_rfl) (s := 7) rfl rfl ⟨by omega, by omega⟩ (by exact (hla2 (by omega)))) ?_
     refine rh_v 5 rfl (by kernel_rfl) rfl rfl rfl hS65 (fun _ hS => ov_loadE rfl Try.underlying28 rfl (by kernel_rfl) rfl ⟨by omega, by omega⟩ rfl (hrow2 _ hS.below)) ?_
     refine rh_any1 1 (by kernel_rfl) ?_
     refine rc_op rfl rfl (ow_v rfl rfl (ov_loadW rfl Try.underlying34 rfl (by kernel_rfl) rfl hO64 0 rfl)) ?_
     rintro _ _ ⟨rfl, hw66⟩
     replace hw66 := hw66.symm; subst hw66
     refine ⟨hS65, ?_⟩
     refine rh_any1 6 (by kernel_rfl) ?_
     refine rc_op rfl rfl (ow_call2 callable_34 rfl rfl rfl rfl rfl (do_any hb w.heap.size Z G3 (S2.k i) (S2.a i) (S2.b i) (S2.m i) (S2.q i) (S2.p i) (S2.n i) N7 _ (T3 ++ TN2) w w63 (50 + ((ln2 : Int) - 1 - i).toNat) (HAt.puts (R := [houB hf (Y.r L7), L7.blk] ++ (T3 ++ R2)) [some (lch b13 34 (ghL Z G3)), some (lch b10 34 (ghL Y L)), some (lch b8 34 (ghL X G))] hO64 hK8 hQ8) hIZ (.cons _ (.cons _ (.cons _ (.cons _ (.cons _ (List.Sublist.append_left hs2 T3)))))) hZ (by omega) (hm20 Z hsmZ)) (by intro e w' hp; obtain ⟨T5, L5, rfl, hI5, hA8⟩ := hp; exact ⟨_, rfl⟩)) ?_
     rintro _ w69 ⟨_, v67, he70, rfl, hp68⟩
     obtain ⟨T5, L5, rfl, hI5, hA8⟩ := hp68
     injection he70 with he70; subst he70
     have hYY := hZ.dstep (by omega) (IntKind.u64.wrap (S2.k i) % 12) (S2.a i) (S2.b i) (S2.m i) (S2.q i) (S2.p i) (S2.n i)
     have hss := (dstep_same Z (IntKind.u64.wrap (S2.k i) % 12) (S2.a i) (S2.b i) (S2.m i) (S2.q i) (S2.p i) (S2.n i)).trans hsmZ
     generalize Z.dstep (IntKind.u64.wrap (S2.k i) % 12) (S2.a i) (S2.b i) (S2.m i) (S2.q i) (S2.p i) (S2.n i) = V at *
     obtain ⟨K9, M9, hO9, hK9, hQ9⟩ := HAt.pull (R := [houB hf (Y.r L7), L7.blk] ++ (T3 ++ R2)) [some (lch b13 34 (ghL Z G3)), some (lch b10 34 (ghL Y L)), some (lch b8 34 (ghL X G))] T5 hA8
     have hS71 : Own w.heap.size w w69 ([]) := by exact hO9.sub (List.nil_sublist _)
     refine ⟨hS71, ?_⟩
     refine rh_v 7 rfl (by kernel_rfl) rfl rfl rfl hS71 (fun _ hS => ov_move rfl rfl) ?_
     refine rh_v 8 rfl (by kernel_rfl) rfl rfl rfl hS71 (fun _ hS => ov_extract rfl rfl (by rfl)) ?_
     refine rh_v 9 rfl (by kernel_rfl) rfl rfl rfl hS71 (fun _ hS => ov_extract rfl rfl (by rfl)) ?_
     refine rh_any1 10 (by kernel_rfl) ?_
     refine rc_op rfl rfl (ow_storeW rfl rfl (by kernel_rfl) hO9 0 rfl rfl (by rfl) rfl (by rfl)) ?_
     rintro _ w72 ⟨rfl, hO73, hs74⟩
     have hS75 : Own w.heap.size w w72 ([]) := by exact hO73.sub (List.nil_sublist _)
     refine ⟨hS75, ?_⟩
     have hA9 : HAt w.heap.size w w72 hb V N7 (([some (lch b13 34 (ghL V L5)), some (lch b10 34 (ghL Y L)), some (lch b8 34 (ghL X G))] ++ T5) ++ (houB hf (Y.r L7) :: L7.blk :: (T3 ++ R2))) := HAt.puts (R := T5 ++ ([houB hf (Y.r L7), L7.blk] ++ (T3 ++ R2))) [some (lch b13 34 (ghL V L5)), some (lch b10 34 (ghL Y L)), some (lch b8 34 (ghL X G))] hO73 hK9 hQ9
     have hW6 : W2H w.heap.size w w72 hb V hf Y [] ([some (lch b13 34 (ghL V L5)), some (lch b10 34 (ghL Y L)), some (lch b8 34 (ghL X G))] ++ ((T5 ++ T3) ++ R2)) := by
      have h := W2H.of hA9 hY7 hP7
      rw [List.append_assoc]
      exact h
     refine rh_v 11 rfl (by kernel_rfl) rfl rfl rfl hS75 (fun _ hS => ov_assign rfl rfl) ?_
     refine rh_done (by kernel_rfl) ?_
     refine run_inBlock <| run_region <| rl_v rfl rfl rfl (ov_move rfl rfl) <| rl_v rfl rfl rfl (ov_sub rfl rfl rfl (by omega)) ?_
     refine rl_v rfl rfl rfl (ov_assign rfl rfl) <| rl_nil ?_
     refine Run.use (ih59 (i - 1) (V) (T5 ++ T3) (L5) _ ?_ ?_) (And.intro (by exact slot_int rfl (by first | omega)) (And.intro (by rfl) (And.intro rfl (And.intro rfl (And.intro rfl (And.intro rfl (And.intro rfl trivial)))))))
     ·first | omega | (dsimp only; omega)
     ·exact ⟨by omega, by rw [show 50 + ((ln2 : Int) - 1 - (i - 1)).toNat = 50 + ((ln2 : Int) - 1 - i).toNat + 1 by omega]; exact hYY, hss, by rw [List.append_assoc]; exact hI5, hW6⟩
    ·obtain ⟨L7, N7, hA7, hY7, hP7⟩ := hWm.left
     refine run_exit rfl <| run_seq <| run_region <| rl_v rfl rfl rfl (ov_move rfl rfl) <| rl_v rfl rfl rfl (ov_move rfl rfl) <| rl_gv rfl rfl rfl rfl rfl (ov_move rfl rfl) <| rl_gv rfl rfl rfl rfl rfl (ov_loadW rfl Try.underlying34 rfl (by kernel_rfl) rfl (hA7.own) 2 rfl) ?_
     refine rl_gcall callable_35 rfl rfl rfl rfl rfl rfl rfl rfl (shows_any hb w.heap.size Z G3 N7 (T3 ++ TN2) _ w w58 hA7 hIZ (.cons _ (.cons _ (.cons _ (.cons _ (.cons _ (List.Sublist.append_left hs2 T3)))))) (hZ.gg (by omega))) (fun e76 w77 hp78 => ?_)
     obtain ⟨rfl, hA8⟩ := hp78
     refine ⟨_, rfl, ?_⟩
     obtain ⟨L9, N9, hA9, hY9, hP9⟩ := (W2H.of (T := []) hA8 hY7 hP7).swap.left
     refine rl_v rfl rfl rfl (ov_pick_t rfl rfl rfl) <| rl_v rfl rfl rfl (ov_move rfl rfl) ?_
     first | refine rl_yesD 106 rfl (rfl) ?_ | refine rl_yes 106 rfl (rfl) ?_
     refine rl_gv rfl rfl rfl rfl rfl (ov_move rfl rfl) <| rl_gv rfl rfl rfl rfl rfl (ov_loadW rfl Try.underlying34 rfl (by kernel_rfl) rfl (hA9.own) 3 rfl) ?_
     refine rl_gcall callable_35 rfl rfl rfl rfl rfl rfl rfl rfl (shows_any hf w.heap.size Y L N9 (T3 ++ TN2) _ w w77 hA9 (hIY.sub (List.sublist_append_right _ _)) (.cons _ (.cons _ (.cons _ (.cons _ (.cons _ (List.Sublist.append_left hs2 T3)))))) hYG) (fun e79 w80 hp81 => ?_)
     obtain ⟨rfl, hA10⟩ := hp81
     refine ⟨_, rfl, ?_⟩
     refine rl_v rfl rfl rfl (ov_pick_t rfl rfl rfl) <| rl_v rfl rfl rfl (ov_move rfl rfl) ?_
     first | refine rl_yesD 111 rfl (rfl) ?_ | refine rl_yes 111 rfl (rfl) ?_
     refine rl_gcall callable_21 rfl rfl rfl rfl rfl rfl rfl rfl (hA10.call1 (Q := fun e => e = _) (fun H hO _ => awake_any w.heap.size H w w80 hO)) (fun e82 w83 hp84 => ?_)
     obtain ⟨rfl, hA11⟩ := hp84
     refine ⟨_, rfl, ?_⟩
     refine rl_v rfl rfl rfl (ov_pick_t rfl rfl rfl) <| rl_v rfl rfl rfl (ov_assign rfl rfl) <| rl_nil <| run_ret Try.func11 (res1 Try.results11 rfl) ?_
     exact ⟨rfl, (hA11.own).below⟩
end Go.Proofs.Ytfbbagnpdfafjaa
set_option maxRecDepth 100000
namespace Go.Proofs.Ytfbbagnpdfafjaa
open Go.Joins Go.ChangeShapes Go.WideShapes Go.ChangeAt Go.RowKit Go.Deep Go.Proofs
theorem Try.own : ownKnob Try.prog.godebug = none := by kernel_rfl
theorem Try.laidOut : laidOutB Try.prog = true := by kernel_rfl
theorem cell_lt {w : World} {b off : Nat} {v : Value} (h : w.cell? ⟨b, off, none⟩ = some v) : b < w.heap.size := by
 by_cases hb : b < w.heap.size
 ·exact hb
 ·have : w.heap[b]? = none := by simp; omega
  simp [World.cell?, this] at h
theorem iat_of {W : World} (a : Addr) (n : Nat) (f : Nat → Value) (h : ∀ i, i < n → W.cell? (a.add i) = some (f i)) : IAt W.heap.size W (some a) n (fun i => f i.toNat) := by
 by_cases hn : n = 0
 ·subst hn; exact IAt.nil _ _ _ _
 ·obtain ⟨b, o, s⟩ := a
  have hs : s = none := by simpa [Addr.add] using World.cell?_spot (h 0 (by omega))
  subst hs
  refine ⟨b, o, fun _ => rfl, fun _ => ?_, fun i hi => ?_⟩
  ·have := h 0 (by omega)
   rw [Addr.add_mid] at this
   exact cell_lt this
  ·have := h i hi
   rw [Addr.add_mid] at this
   exact this
theorem open_row0 {H : Type} {enc : TypeId × Value → H} {W : World} {v : Value} {y : DataW H × List MemPlace} {fuel : Nat} (hf : DataW.trod enc Try.prog W 0 (fun _ => true) true fuel 22 [v] = some y) :
  ∃ (ao : Option Addr) (n c : Nat) (g : Int → Int), v = .slice ao n c ∧ n ≤ c ∧ IAt W.heap.size W ao n (fun i => .int .i64 (g i)) := by
 rcases open_ints Try.underlying22 Try.underlying2 (by kernel_rfl) hf with ⟨hcs, hx⟩ | ⟨a, len, cap, zs, hcs, _, hl, hm, hz, hx, hc, _⟩
 ·have hv : v = .slice none 0 0 := by
   simpa using hcs
  exact ⟨none, 0, 0, fun _ => 0, hv, Nat.le_refl _, IAt.nil _ _ _ _⟩
 ·have hv : v = .slice (some a) len cap := by
   simpa using hcs
  simp only [if_true] at hz
  exact ⟨some a, len, cap, fun i => zs.getD i.toNat 0, hv, hl, iat_of a len (fun i => .int .i64 (zs.getD i 0)) (fun i hi => hc i (by omega))⟩
end Go.Proofs.Ytfbbagnpdfafjaa
