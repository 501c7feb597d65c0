/- NetSettles: the walk. -/
import Derived.Test.YtiambddcpflkhaaSet3
set_option maxRecDepth 100000
namespace Go.Proofs.Ytiambddcpflkhaa
open Go.RowKit Go.Proofs

theorem netSettles_any (ao : Option Addr) (G Gc : Nat) (L : Int → Nat) (D0 : Int → Int → Int) (w : World)
    (h : ITab w.heap.size w ao G L (fun r c => .int .i64 (D0 r c))) :
    Calls Try.prog 10 #[.slice ao G Gc] w fun e w' => e = .returned (.bool true) ∧ Below w.heap.size w w' := by
  refine calls_of_run (F := [(0, _)]) Try.func10 rfl Try.ntmps10 rfl rfl ?_
  have hO0 := Own.init w
  refine run_seq ?_
  refine run_region ?_
  refine rl_v rfl rfl rfl (ov_assign rfl rfl) ?_
  refine rl_nil ?_
  refine run_seq ?_
  refine run_region ?_
  refine rl_v rfl rfl rfl (ov_move rfl rfl) ?_
  refine rl_call callable_13 rfl rfl rfl rfl rfl rfl (tame_any ao G Gc 12 1000000 L D0 _ (by omega) (by omega) (by omega) h) (fun e1 w2 hp3 => ?_)
  obtain ⟨v, n, D, H, rfl, hT, hOt, hn1, hn8, hDr, hdia⟩ := hp3
  refine ⟨_, rfl, ?_⟩
  obtain ⟨to, tc, rfl⟩ := hT.val
  have hv : Valid n D := ⟨hn1, by omega, fun r c => (hDr r c).1, fun r c => (hDr r c).2, hdia⟩
  have hle := hv.le
  have hOA := hOt
  have hIT := hT.reads (H' := []) (by simpa using hOt)
  have hI0 := Own.init w2
  refine rl_v rfl rfl rfl (ov_assign rfl rfl) ?_
  refine rl_nil ?_
  refine run_seq ?_
  refine run_region ?_
  refine rl_v rfl rfl rfl (ov_move rfl rfl) ?_
  refine rl_call callable_53 rfl rfl rfl rfl rfl rfl (settle_any to n tc D _ hv (hIT.later hI0.below)) (fun e4 w5 hp6 => ?_)
  obtain ⟨K, v4, c4, rfl, hK, hKn, hr4, hOq4⟩ := hp6
  refine ⟨_, rfl, ?_⟩
  have hO7 := hI0.join hOq4
  refine rl_v rfl rfl rfl (ov_move rfl rfl) ?_
  refine rl_v rfl rfl rfl (ov_extract rfl rfl (by rfl)) ?_
  refine rl_v rfl rfl rfl (ov_extract rfl rfl (by rfl)) ?_
  refine rl_v rfl rfl rfl (ov_assign rfl rfl) ?_
  refine rl_v rfl rfl rfl (ov_assign rfl rfl) ?_
  refine rl_nil ?_
  refine run_seq ?_
  refine run_region ?_
  refine rl_v rfl rfl rfl (ov_move rfl rfl) ?_
  refine rl_call callable_54 rfl rfl rfl rfl rfl rfl (refSettle_any to n tc D _ hv (hIT.later hO7.below)) (fun e8 w9 hp10 => ?_)
  obtain ⟨K', v6, c6, rfl, hK', hKn', hr6, hOq6⟩ := hp10
  refine ⟨_, rfl, ?_⟩
  have hO11 := hO7.join hOq6
  obtain rfl : K = K' := hK.uniq hK'
  obtain ⟨a4, x4, rfl⟩ := Row.val hr4
  obtain ⟨a6, x6, rfl⟩ := Row.val hr6
  have hfew := hK.few (ps_sum n D) hn1
  have hI4 := hr4.reads hO11 1 rfl
  have hI6 := hr6.reads hO11 0 rfl
  have hOB := hOA.join hO11
  have hIT2 := hIT.later hO11.below
  have hI0 := Own.init w9
  refine rl_v rfl rfl rfl (ov_assign rfl rfl) ?_
  refine rl_nil ?_
  refine run_seq ?_
  refine run_seq ?_
  refine run_region ?_
  refine rl_v rfl rfl rfl (ov_move rfl rfl) ?_
  refine rl_v rfl rfl rfl (ov_neq rfl rfl rfl) ?_
  refine rl_v rfl rfl rfl (ov_move rfl rfl) ?_
  first | refine rl_split_dec 20 rfl (fun g1 => ?_) (fun g1 => ?_) | refine rl_split 20 rfl (fun g1 => ?_) (fun g1 => ?_)
  · refine rl_gskip rfl rfl rfl rfl rfl rfl ?_
    refine rl_gskip rfl rfl rfl rfl rfl rfl ?_
    refine rl_gskip rfl rfl rfl rfl rfl rfl ?_
    refine rl_gskip rfl rfl rfl rfl rfl rfl ?_
    refine rl_gskip rfl rfl rfl rfl rfl rfl ?_
    refine rl_v rfl rfl rfl (ov_pick_t rfl rfl rfl) ?_
    refine rl_v rfl rfl rfl (ov_move rfl rfl) ?_
    refine rl_gskip rfl rfl rfl rfl rfl rfl ?_
    refine rl_gskip rfl rfl rfl rfl rfl rfl ?_
    refine rl_gskip rfl rfl rfl rfl rfl rfl ?_
    refine rl_gskip rfl rfl rfl rfl rfl rfl ?_
    refine rl_gskip rfl rfl rfl rfl rfl rfl ?_
    refine rl_v rfl rfl rfl (ov_pick_t rfl rfl rfl) ?_
    refine rl_nil ?_
    refine run_cond_t rfl ?_
    exfalso; exact g1 rfl
  · refine rl_gv rfl rfl rfl rfl rfl (ov_move rfl rfl) ?_
    refine rl_gv rfl rfl rfl rfl rfl (ov_len rfl Try.underlying79 rfl) ?_
    refine rl_gv rfl rfl rfl rfl rfl (ov_move rfl rfl) ?_
    refine rl_gv rfl rfl rfl rfl rfl (ov_len rfl Try.underlying82 rfl) ?_
    refine rl_gv rfl rfl rfl rfl rfl (ov_neq rfl rfl rfl) ?_
    refine rl_v rfl rfl rfl (ov_pick_f rfl rfl rfl) ?_
    refine rl_v rfl rfl rfl (ov_move rfl rfl) ?_
    first | refine rl_split_dec 27 rfl (fun g2 => ?_) (fun g2 => ?_) | refine rl_split 27 rfl (fun g2 => ?_) (fun g2 => ?_)
    · refine rl_gskip rfl rfl rfl rfl rfl rfl ?_
      refine rl_gskip rfl rfl rfl rfl rfl rfl ?_
      refine rl_gskip rfl rfl rfl rfl rfl rfl ?_
      refine rl_gskip rfl rfl rfl rfl rfl rfl ?_
      refine rl_gskip rfl rfl rfl rfl rfl rfl ?_
      refine rl_v rfl rfl rfl (ov_pick_t rfl rfl rfl) ?_
      refine rl_nil ?_
      refine run_cond_t rfl ?_
      exfalso; exact g2 rfl
    · refine rl_gv rfl rfl rfl rfl rfl (ov_move rfl rfl) ?_
      refine rl_gv rfl rfl rfl rfl rfl (ov_len rfl Try.underlying79 rfl) ?_
      refine rl_gv rfl rfl rfl rfl rfl (ov_move rfl rfl) ?_
      refine rl_gv rfl rfl rfl rfl rfl (ov_len rfl Try.underlying22 rfl) ?_
      refine rl_gv rfl rfl rfl rfl rfl (ov_geq rfl rfl rfl) ?_
      refine rl_v rfl rfl rfl (ov_pick_f rfl rfl rfl) ?_
      refine rl_nil ?_
      first | refine run_cond_dec rfl (fun h5 => ?_) (fun h5 => ?_) | refine run_cond rfl (fun h5 => ?_) (fun h5 => ?_)
      · exfalso; omega
      · refine run_skip ?_
        refine run_seq ?_
        refine run_region ?_
        refine rl_v rfl rfl rfl (ov_move rfl rfl) ?_
        refine rl_call callable_47 rfl rfl rfl rfl rfl rfl (refPositions_any to n tc D _ hle hv.all (hIT2.later hI0.below)) (fun e14 w15 hp16 => ?_)
        obtain ⟨b7, rfl, hOq7⟩ := hp16
        refine ⟨_, rfl, ?_⟩
        have hO17 := hI0.join hOq7
        obtain ⟨gb4, go4, hga4, hrow4⟩ := hI4.open (by omega)
        obtain ⟨gb6, go6, hga6, hrow6⟩ := hI6.open (by omega)
        refine rl_v rfl rfl rfl (ov_assign rfl rfl) ?_
        refine rl_nil ?_
        refine run_seq ?_
        refine run_seq ?_
        refine run_region ?_
        refine rl_v rfl rfl rfl (ov_assign rfl rfl) ?_
        refine rl_nil ?_
        refine run_block ?_
        refine Run.keep [3, 4, 6, 7, 8] (F' := [(3, _), (4, _), (6, _), (7, _), (8, _)]) rfl ?_
        refine run_loop3 (fun (k : Int) (kn : Nat) (g : Int → Int) => [(8, .int .i64 k)]) [3, 4, 6, 7] (fun (k : Int) (kn : Nat) (g : Int → Int) (w18 : World) => k = kn ∧ kn ≤ K ∧ (∀ i, -32000000 ≤ stP n (ps n D) kn i ∧ stP n (ps n D) kn i ≤ 32000000) ∧ (∀ i : Int, 0 ≤ i → i < n → g i = stP n (ps n D) kn i) ∧ Own w9.heap.size w9 w18 [some (vch b7 2 n (fun i => .int .i64 (g i)))]) (fun (k : Int) (kn : Nat) (g : Int → Int) => K - kn) (0) (0) (ps n D) ?_ (And.intro (by first | with_reducible rfl | exact slot_int rfl (by first | omega) | rfl) (And.intro rfl (And.intro rfl (And.intro rfl (And.intro rfl trivial))))) ?_
        · exact ⟨rfl, by omega, ps_rng hv, fun i _ _ => rfl, hO17⟩
        intro k kn g w18 hIw18 ih19
        obtain ⟨hk, hk1, hrg, hg, hO⟩ := hIw18
        show Run _ _ _ _ [(8, _), (3, _), (4, _), (6, _), (7, _)] _ _
        refine run_seq ?_
        refine run_seq ?_
        refine run_region ?_
        refine rl_v rfl rfl rfl (ov_move rfl rfl) ?_
        refine rl_v rfl rfl rfl (ov_move rfl rfl) ?_
        refine rl_v rfl rfl rfl (ov_len rfl Try.underlying79 rfl) ?_
        refine rl_v rfl rfl rfl (ov_lss rfl rfl rfl) ?_
        refine rl_nil ?_
        first | refine run_cond_dec rfl (fun h6 => ?_) (fun h6 => ?_) | refine run_cond rfl (fun h6 => ?_) (fun h6 => ?_)
        · obtain rfl : kn = k.toNat := by omega
          have hsm := stP_sum (ps_sum n D) k.toNat fun j hj => hK.some j (by omega)
          obtain ⟨pa, pb, hpa, hpb, e1, e2⟩ := step_ok hsm (hK.some k.toNat (by omega))
          have ham := hK.amount (ps_sum n D) (k := k.toNat) (by omega)
          have hmv : moved n (stP n (ps n D) k.toNat) = min (-(stP n (ps n D) k.toNat pa)) (stP n (ps n D) k.toNat pb) := by unfold moved; rw [e1, e2]
          have hra := hrg pa
          have hrb := hrg pb
          have hp1 := hpa.2.1
          have hp2 := hpb.2.1
          have ga := hg (payer n (stP n (ps n D) k.toNat)) ham.2.1.1 ham.2.1.2
          have gb := hg (getter n (stP n (ps n D) k.toNat)) ham.2.2.1 ham.2.2.2.1
          have hra2 := hrg (payer n (stP n (ps n D) k.toNat))
          have hrb2 := hrg (getter n (stP n (ps n D) k.toNat))
          have hamA := ham.1
          have hamB := ham.2.1
          have hamC := ham.2.2.1
          have hamD := ham.2.2.2.1
          have hne := ham.2.2.2.2
          clear ham
          refine run_skip ?_
          refine run_seq ?_
          refine run_block ?_
          refine run_seq ?_
          refine run_seq ?_
          refine run_quiet mixed (by kernel_rfl) ?_
          refine rq_v rfl rfl rfl (fun _ => ov_move rfl rfl) ?_
          refine rq_v rfl rfl rfl (fun _ => ov_move rfl rfl) ?_
          refine rq_v rfl rfl rfl (fun _ => ov_index rfl Try.underlying79 (by kernel_rfl) (s := 3) rfl rfl ⟨by omega, by omega⟩ (by first | rfl | exact hga4 (by omega) | exact hga6 (by omega))) ?_
          refine rq_v rfl rfl rfl (fun _ => ov_loadE rfl Try.underlying86 rfl (by kernel_rfl) rfl ⟨by omega, by omega⟩ rfl (fun i i0 i1 fo hf => hrow4 w18 hO.below i i0 i1 fo hf)) ?_
          refine rq_v rfl rfl rfl (fun _ => ov_move rfl rfl) ?_
          refine rq_v rfl rfl rfl (fun _ => ov_move rfl rfl) ?_
          refine rq_v rfl rfl rfl (fun _ => ov_index rfl Try.underlying82 (by kernel_rfl) (s := 3) rfl rfl ⟨by omega, by omega⟩ (by first | rfl | exact hga4 (by omega) | exact hga6 (by omega))) ?_
          refine rq_v rfl rfl rfl (fun _ => ov_loadE rfl Try.underlying85 rfl (by kernel_rfl) rfl ⟨by omega, by omega⟩ rfl (fun i i0 i1 fo hf => hrow6 w18 hO.below i i0 i1 fo hf)) ?_
          refine rq_v rfl rfl rfl (fun _ => ov_neqT rfl rfl rfl) ?_
          refine rq_v rfl rfl rfl (fun _ => ov_move rfl rfl) ?_
          first | refine rq_split_dec 51 rfl (fun g3 => ?_) (fun g3 => ?_) | refine rq_split 51 rfl (fun g3 => ?_) (fun g3 => ?_)
          · refine rq_gskip rfl rfl rfl rfl rfl rfl ?_
            refine rq_gskip rfl rfl rfl rfl rfl rfl ?_
            refine rq_gskip rfl rfl rfl rfl rfl rfl ?_
            refine rq_gskip rfl rfl rfl rfl rfl rfl ?_
            refine rq_gskip rfl rfl rfl rfl rfl rfl ?_
            refine rq_gskip rfl rfl rfl rfl rfl rfl ?_
            refine rq_v rfl rfl rfl (fun _ => ov_pick_t rfl rfl rfl) ?_
            refine rq_nil (fun n21 => ?_)
            have hO23 := hO.drewN n21
            generalize World.drewN w18 n21 = w22 at hO23 ⊢
            refine run_cond_t rfl ?_
            exfalso; cases g3
          · refine rq_gv rfl rfl rfl rfl rfl (fun _ => ov_move rfl rfl) ?_
            refine rq_gv rfl rfl rfl rfl rfl (fun _ => ov_move rfl rfl) ?_
            refine rq_gv rfl rfl rfl rfl rfl (fun _ => ov_index rfl Try.underlying79 (by kernel_rfl) (s := 3) rfl rfl ⟨by omega, by omega⟩ (by first | rfl | exact hga4 (by omega) | exact hga6 (by omega))) ?_
            refine rq_gv rfl rfl rfl rfl rfl (fun _ => ov_fieldS rfl Try.underlying86 rfl (fo := 2) rfl (by kernel_rfl) rfl) ?_
            refine rq_gv rfl rfl rfl rfl rfl (fun _ => ov_load rfl Try.underlying2 rfl rfl (by show World.cell? w18 _ = _; first | exact hrow4 _ hO.below _ (by omega) (by omega) _ (by omega) | exact hO.cellI 0 rfl _ (by omega) (by omega) | exact hO.cellL 0 rfl rfl | exact hO.cellI 1 rfl _ (by omega) (by omega) | exact hO.cellL 1 rfl rfl | exact hO.cellI 2 rfl _ (by omega) (by omega) | exact hO.cellL 2 rfl rfl | exact hO.cellI 3 rfl _ (by omega) (by omega) | exact hO.cellL 3 rfl rfl | exact hO.cellI 4 rfl _ (by omega) (by omega) | exact hO.cellL 4 rfl rfl | exact hO.cellI 5 rfl _ (by omega) (by omega) | exact hO.cellL 5 rfl rfl)) ?_
            refine rq_gv rfl rfl rfl rfl rfl (fun _ => ov_lss rfl rfl rfl) ?_
            refine rq_v rfl rfl rfl (fun _ => ov_pick_f rfl rfl rfl) ?_
            refine rq_nil (fun n24 => ?_)
            have hO26 := hO.drewN n24
            generalize World.drewN w18 n24 = w25 at hO26 ⊢
            first | refine run_cond_dec rfl (fun h8 => ?_) (fun h8 => ?_) | refine run_cond rfl (fun h8 => ?_) (fun h8 => ?_)
            · exfalso; omega
            · refine run_skip ?_
              refine run_seq ?_
              refine run_tail 21 mixed (by kernel_rfl) ?_
              have hO28 := hO26.drew
              generalize World.drew w25 = w27 at hO28 ⊢
              refine rt_v rfl rfl rfl (ov_move rfl rfl) ?_
              refine rt_v rfl rfl rfl (ov_move rfl rfl) ?_
              refine rt_v rfl rfl rfl (ov_move rfl rfl) ?_
              refine rt_v rfl rfl rfl (ov_index rfl Try.underlying79 (by kernel_rfl) (s := 3) rfl rfl ⟨by omega, by omega⟩ (by first | rfl | exact hga4 (by omega) | exact hga6 (by omega))) ?_
              refine rt_v rfl rfl rfl (ov_fieldS rfl Try.underlying86 rfl (fo := 0) rfl (by kernel_rfl) rfl) ?_
              refine rt_v rfl rfl rfl (ov_load rfl Try.underlying3 rfl rfl (by first | exact hrow4 _ hO28.below _ (by omega) (by omega) _ (by omega) | exact hO28.cellI 0 rfl _ (by omega) (by omega) | exact hO28.cellL 0 rfl rfl | exact hO28.cellI 1 rfl _ (by omega) (by omega) | exact hO28.cellL 1 rfl rfl | exact hO28.cellI 2 rfl _ (by omega) (by omega) | exact hO28.cellL 2 rfl rfl | exact hO28.cellI 3 rfl _ (by omega) (by omega) | exact hO28.cellL 3 rfl rfl | exact hO28.cellI 4 rfl _ (by omega) (by omega) | exact hO28.cellL 4 rfl rfl | exact hO28.cellI 5 rfl _ (by omega) (by omega) | exact hO28.cellL 5 rfl rfl)) ?_
              refine rt_v rfl rfl rfl (ov_move rfl rfl) ?_
              refine rt_v rfl rfl rfl (ov_move rfl rfl) ?_
              refine rt_v rfl rfl rfl (ov_move rfl rfl) ?_
              refine rt_v rfl rfl rfl (ov_index rfl Try.underlying79 (by kernel_rfl) (s := 3) rfl rfl ⟨by omega, by omega⟩ (by first | rfl | exact hga4 (by omega) | exact hga6 (by omega))) ?_
              refine rt_v rfl rfl rfl (ov_fieldS rfl Try.underlying86 rfl (fo := 0) rfl (by kernel_rfl) rfl) ?_
              refine rt_v rfl rfl rfl (ov_load rfl Try.underlying3 rfl rfl (by first | exact hrow4 _ hO28.below _ (by omega) (by omega) _ (by omega) | exact hO28.cellI 0 rfl _ (by omega) (by omega) | exact hO28.cellL 0 rfl rfl | exact hO28.cellI 1 rfl _ (by omega) (by omega) | exact hO28.cellL 1 rfl rfl | exact hO28.cellI 2 rfl _ (by omega) (by omega) | exact hO28.cellL 2 rfl rfl | exact hO28.cellI 3 rfl _ (by omega) (by omega) | exact hO28.cellL 3 rfl rfl | exact hO28.cellI 4 rfl _ (by omega) (by omega) | exact hO28.cellL 4 rfl rfl | exact hO28.cellI 5 rfl _ (by omega) (by omega) | exact hO28.cellL 5 rfl rfl)) ?_
              refine rt_v rfl rfl rfl (ov_index1 rfl Try.underlying23 (by kernel_rfl) rfl rfl ⟨by omega, by omega⟩ (by first | rfl | exact hga4 (by omega) | exact hga6 (by omega))) ?_
              refine rt_v rfl rfl rfl (ov_load rfl Try.underlying2 rfl rfl (by first | exact hrow4 _ hO28.below _ (by omega) (by omega) _ (by omega) | exact hO28.cellI 0 rfl _ (by omega) (by omega) | exact hO28.cellL 0 rfl rfl | exact hO28.cellI 1 rfl _ (by omega) (by omega) | exact hO28.cellL 1 rfl rfl | exact hO28.cellI 2 rfl _ (by omega) (by omega) | exact hO28.cellL 2 rfl rfl | exact hO28.cellI 3 rfl _ (by omega) (by omega) | exact hO28.cellL 3 rfl rfl | exact hO28.cellI 4 rfl _ (by omega) (by omega) | exact hO28.cellL 4 rfl rfl | exact hO28.cellI 5 rfl _ (by omega) (by omega) | exact hO28.cellL 5 rfl rfl)) ?_
              refine rt_v rfl rfl rfl (ov_move rfl rfl) ?_
              refine rt_v rfl rfl rfl (ov_move rfl rfl) ?_
              refine rt_v rfl rfl rfl (ov_index rfl Try.underlying79 (by kernel_rfl) (s := 3) rfl rfl ⟨by omega, by omega⟩ (by first | rfl | exact hga4 (by omega) | exact hga6 (by omega))) ?_
              refine rt_v rfl rfl rfl (ov_fieldS rfl Try.underlying86 rfl (fo := 2) rfl (by kernel_rfl) rfl) ?_
              refine rt_v rfl rfl rfl (ov_load rfl Try.underlying2 rfl rfl (by first | exact hrow4 _ hO28.below _ (by omega) (by omega) _ (by omega) | exact hO28.cellI 0 rfl _ (by omega) (by omega) | exact hO28.cellL 0 rfl rfl | exact hO28.cellI 1 rfl _ (by omega) (by omega) | exact hO28.cellL 1 rfl rfl | exact hO28.cellI 2 rfl _ (by omega) (by omega) | exact hO28.cellL 2 rfl rfl | exact hO28.cellI 3 rfl _ (by omega) (by omega) | exact hO28.cellL 3 rfl rfl | exact hO28.cellI 4 rfl _ (by omega) (by omega) | exact hO28.cellL 4 rfl rfl | exact hO28.cellI 5 rfl _ (by omega) (by omega) | exact hO28.cellL 5 rfl rfl)) ?_
              refine rt_v rfl rfl rfl (ov_add rfl rfl rfl (by omega)) ?_
              refine rt_v rfl rfl rfl (ov_index1 rfl Try.underlying23 (by kernel_rfl) rfl rfl ⟨by omega, by omega⟩ (by first | rfl | exact hga4 (by omega) | exact hga6 (by omega))) ?_
              refine rt_nil ?_
              refine rl_ow rfl (ow_storeI rfl rfl (by kernel_rfl) hO28 0 rfl rfl ⟨by omega, by omega⟩ rfl) ?_
              rintro _ w29 ⟨rfl, hO30, hs31⟩
              have hu : upd g (payer n (stP n (ps n D) k.toNat)) (g (payer n (stP n (ps n D) k.toNat)) + moved n (stP n (ps n D) k.toNat)) (getter n (stP n (ps n D) k.toNat)) = g (getter n (stP n (ps n D) k.toNat)) := upd_ne _ _ (fun e => hne e.symm)
              refine rl_nil ?_
              refine run_tail 21 mixed (by kernel_rfl) ?_
              have hO33 := hO30.drew
              generalize World.drew w29 = w32 at hO33 ⊢
              refine rt_v rfl rfl rfl (ov_move rfl rfl) ?_
              refine rt_v rfl rfl rfl (ov_move rfl rfl) ?_
              refine rt_v rfl rfl rfl (ov_move rfl rfl) ?_
              refine rt_v rfl rfl rfl (ov_index rfl Try.underlying79 (by kernel_rfl) (s := 3) rfl rfl ⟨by omega, by omega⟩ (by first | rfl | exact hga4 (by omega) | exact hga6 (by omega))) ?_
              refine rt_v rfl rfl rfl (ov_fieldS rfl Try.underlying86 rfl (fo := 1) rfl (by kernel_rfl) rfl) ?_
              refine rt_v rfl rfl rfl (ov_load rfl Try.underlying3 rfl rfl (by first | exact hrow4 _ hO33.below _ (by omega) (by omega) _ (by omega) | exact hO33.cellI 0 rfl _ (by omega) (by omega) | exact hO33.cellL 0 rfl rfl | exact hO33.cellI 1 rfl _ (by omega) (by omega) | exact hO33.cellL 1 rfl rfl | exact hO33.cellI 2 rfl _ (by omega) (by omega) | exact hO33.cellL 2 rfl rfl | exact hO33.cellI 3 rfl _ (by omega) (by omega) | exact hO33.cellL 3 rfl rfl | exact hO33.cellI 4 rfl _ (by omega) (by omega) | exact hO33.cellL 4 rfl rfl | exact hO33.cellI 5 rfl _ (by omega) (by omega) | exact hO33.cellL 5 rfl rfl)) ?_
              refine rt_v rfl rfl rfl (ov_move rfl rfl) ?_
              refine rt_v rfl rfl rfl (ov_move rfl rfl) ?_
              refine rt_v rfl rfl rfl (ov_move rfl rfl) ?_
              refine rt_v rfl rfl rfl (ov_index rfl Try.underlying79 (by kernel_rfl) (s := 3) rfl rfl ⟨by omega, by omega⟩ (by first | rfl | exact hga4 (by omega) | exact hga6 (by omega))) ?_
              refine rt_v rfl rfl rfl (ov_fieldS rfl Try.underlying86 rfl (fo := 1) rfl (by kernel_rfl) rfl) ?_
              refine rt_v rfl rfl rfl (ov_load rfl Try.underlying3 rfl rfl (by first | exact hrow4 _ hO33.below _ (by omega) (by omega) _ (by omega) | exact hO33.cellI 0 rfl _ (by omega) (by omega) | exact hO33.cellL 0 rfl rfl | exact hO33.cellI 1 rfl _ (by omega) (by omega) | exact hO33.cellL 1 rfl rfl | exact hO33.cellI 2 rfl _ (by omega) (by omega) | exact hO33.cellL 2 rfl rfl | exact hO33.cellI 3 rfl _ (by omega) (by omega) | exact hO33.cellL 3 rfl rfl | exact hO33.cellI 4 rfl _ (by omega) (by omega) | exact hO33.cellL 4 rfl rfl | exact hO33.cellI 5 rfl _ (by omega) (by omega) | exact hO33.cellL 5 rfl rfl)) ?_
              refine rt_v rfl rfl rfl (ov_index1 rfl Try.underlying23 (by kernel_rfl) rfl rfl ⟨by omega, by omega⟩ (by first | rfl | exact hga4 (by omega) | exact hga6 (by omega))) ?_
              refine rt_v rfl rfl rfl (ov_load rfl Try.underlying2 rfl rfl (by first | exact hrow4 _ hO33.below _ (by omega) (by omega) _ (by omega) | exact hO33.cellI 0 rfl _ (by omega) (by omega) | exact hO33.cellL 0 rfl rfl | exact hO33.cellI 1 rfl _ (by omega) (by omega) | exact hO33.cellL 1 rfl rfl | exact hO33.cellI 2 rfl _ (by omega) (by omega) | exact hO33.cellL 2 rfl rfl | exact hO33.cellI 3 rfl _ (by omega) (by omega) | exact hO33.cellL 3 rfl rfl | exact hO33.cellI 4 rfl _ (by omega) (by omega) | exact hO33.cellL 4 rfl rfl | exact hO33.cellI 5 rfl _ (by omega) (by omega) | exact hO33.cellL 5 rfl rfl)) ?_
              refine rt_v rfl rfl rfl (ov_move rfl rfl) ?_
              refine rt_v rfl rfl rfl (ov_move rfl rfl) ?_
              refine rt_v rfl rfl rfl (ov_index rfl Try.underlying79 (by kernel_rfl) (s := 3) rfl rfl ⟨by omega, by omega⟩ (by first | rfl | exact hga4 (by omega) | exact hga6 (by omega))) ?_
              refine rt_v rfl rfl rfl (ov_fieldS rfl Try.underlying86 rfl (fo := 2) rfl (by kernel_rfl) rfl) ?_
              refine rt_v rfl rfl rfl (ov_load rfl Try.underlying2 rfl rfl (by first | exact hrow4 _ hO33.below _ (by omega) (by omega) _ (by omega) | exact hO33.cellI 0 rfl _ (by omega) (by omega) | exact hO33.cellL 0 rfl rfl | exact hO33.cellI 1 rfl _ (by omega) (by omega) | exact hO33.cellL 1 rfl rfl | exact hO33.cellI 2 rfl _ (by omega) (by omega) | exact hO33.cellL 2 rfl rfl | exact hO33.cellI 3 rfl _ (by omega) (by omega) | exact hO33.cellL 3 rfl rfl | exact hO33.cellI 4 rfl _ (by omega) (by omega) | exact hO33.cellL 4 rfl rfl | exact hO33.cellI 5 rfl _ (by omega) (by omega) | exact hO33.cellL 5 rfl rfl)) ?_
              refine rt_v rfl rfl rfl (ov_sub rfl rfl rfl (by omega)) ?_
              refine rt_v rfl rfl rfl (ov_index1 rfl Try.underlying23 (by kernel_rfl) rfl rfl ⟨by omega, by omega⟩ (by first | rfl | exact hga4 (by omega) | exact hga6 (by omega))) ?_
              refine rt_nil ?_
              refine rl_ow rfl (ow_storeI rfl rfl (by kernel_rfl) hO33 0 rfl rfl ⟨by omega, by omega⟩ rfl) ?_
              rintro _ w34 ⟨rfl, hO35, hs36⟩
              have hst : ∀ j : Int, 0 ≤ j → j < n → tfr g (payer n (stP n (ps n D) k.toNat)) (getter n (stP n (ps n D) k.toNat)) (moved n (stP n (ps n D) k.toNat)) j = stP n (ps n D) (k.toNat + 1) j := fun j j0 j1 => by
                show _ = tfr _ _ _ _ j
                rw [tfr_at hne, tfr_at hne, ga, gb, hg j j0 j1]
              refine rl_nil ?_
              refine run_inBlock ?_
              refine run_region ?_
              refine rl_v rfl rfl rfl (ov_move rfl rfl) ?_
              refine rl_v rfl rfl rfl (ov_add rfl rfl rfl (by omega)) ?_
              refine rl_v rfl rfl rfl (ov_assign rfl rfl) ?_
              refine rl_nil ?_
              refine Run.use (ih19 (k + 1) (k.toNat + 1) (tfr g (payer n (stP n (ps n D) k.toNat)) (getter n (stP n (ps n D) k.toNat)) (moved n (stP n (ps n D) k.toNat))) _ ?_ ?_) (And.intro (by first | with_reducible rfl | exact slot_int rfl (by first | omega) | rfl) (And.intro rfl (And.intro rfl (And.intro rfl (And.intro rfl trivial)))))
              · first | omega | (dsimp only; omega)
              · exact ⟨by omega, by omega, nxt_rng hpa hpb hrg, hst, hO35⟩
        · have hkK : kn = K := by omega
          subst hkK
          have hz : ∀ i : Int, 0 ≤ i → i < n → g i = 0 := fun i i0 i1 => by
            rw [hg i i0 i1]
            exact all_zero (stP_sum (ps_sum n D) kn fun j hj => hK.some j hj) hK.none i i0 i1
          refine run_exit rfl ?_
          refine run_seq ?_
          refine run_region ?_
          refine rl_v rfl rfl rfl (ov_move rfl rfl) ?_
          refine rl_v rfl rfl rfl (ov_move rfl rfl) ?_
          refine rl_v rfl rfl rfl (ov_len rfl Try.underlying22 rfl) ?_
          refine rl_make (n) rfl rfl rfl rfl Try.underlying23 info_2 rfl hO rfl rfl (by first | rfl | omega) (by first | rfl | omega) ⟨by omega, by omega⟩ (fun bz w37 hO38 hs39 => ?_)
          refine rl_call callable_23 rfl rfl rfl rfl rfl rfl (longs_any _ _ n n n n g (fun _ => 0) _ (by omega) (hO38.readsI 1 rfl) (hO38.readsI 0 rfl)) (fun e40 w41 hp42 => ?_)
          obtain ⟨⟨bl, rfl, hbl⟩, hb9⟩ := hp42
          refine ⟨_, rfl, ?_⟩
          have hO43 := hO38.past hb9
          obtain rfl : bl = true := hbl.2 ⟨rfl, hz⟩
          refine rl_v rfl rfl rfl (ov_move rfl rfl) ?_
          first | refine rl_split_dec 106 rfl (fun g9 => ?_) (fun g9 => ?_) | refine rl_split 106 rfl (fun g9 => ?_) (fun g9 => ?_)
          · refine rl_gcall callable_18 rfl rfl rfl rfl rfl rfl rfl rfl (awake_any _) (fun e45 w46 hp47 => ?_)
            obtain ⟨rfl, hb10⟩ := hp47
            refine ⟨_, rfl, ?_⟩
            have hO48 := hO43.past hb10
            refine rl_v rfl rfl rfl (ov_pick_t rfl rfl rfl) ?_
            refine rl_v rfl rfl rfl (ov_assign rfl rfl) ?_
            refine rl_nil ?_
            refine run_ret Try.func10 (res1 Try.results10 rfl) ?_
            exact ⟨rfl, (hOB.join hO48).below⟩
          · exfalso; cases g9
end Go.Proofs.Ytiambddcpflkhaa
