import Derived.Test.YtbepolognfdkeaaGbR
set_option maxRecDepth 100000
namespace Go.Proofs.Ytbepolognfdkeaa
open Go.RowKit Go.Proofs Go.MapKept
theorem ind_01z (p : Prop) : ind p = 0 ∨ ind p = 1 := by
 have := ind_rng p
 omega
set_option maxHeartbeats 4000000 in
theorem refPlan7_any (la : Option Addr) (lc : Nat) (l : Lds) (kilns : Int) (ta : Option Addr) (tc : Nat) (T : List Trn) (w : World) (hn : l.n ≤ 256) (hV : l.Fit 1000000000) (hT : T.length ≤ 1000000)
  (hl : SAt w.heap.size w la 4 l.n (ldF l)) (ht : SAt w.heap.size w ta 3 T.length (trF T)) :
  Calls Try.prog 25 #[.slice la l.n lc, iv kilns, .slice ta T.length tc] w fun e w' => e = .returned (.bool (decide (PlanOk l kilns T))) ∧ Own w.heap.size w w' [] := by
 obtain ⟨lb, lo, hla, hlr⟩ := hl.open (by decide)
 obtain ⟨tb, to, hta, htr⟩ := ht.open (by decide)
 have hno : ∀ i : Int, 0 ≤ i → i < T.length → ¬ PlanA l kilns T i → decide (PlanOk l kilns T) = false := fun i i0 i1 h => decide_eq_false fun hp => h ((planX_iff.2 hp).a i i0 i1)
 refine calls_of_run (F := [(0, _), (1, _), (2, _)]) Try.func25 rfl Try.ntmps25 rfl rfl ?_
 have hO0 := Own.init w
 refine run_seq <| run_region <| rl_v rfl rfl rfl (ov_assign rfl rfl) <| rl_nil <| run_seq <| run_region <| rl_v rfl rfl rfl (ov_move rfl rfl) <| rl_v rfl rfl rfl (ov_len rfl Try.underlying22 rfl) ?_
 refine rl_make (l.n) rfl rfl rfl rfl Try.underlying47 info_3 rfl hO0 rfl rfl (by rfl) (by rfl) ⟨by omega, by omega⟩ (fun sb w1 hO2 hs3 => ?_)
 refine rl_v rfl rfl rfl (ov_assign rfl rfl) <| rl_nil <| run_seq <| run_seq <| run_region <| rl_v rfl rfl rfl (ov_assign rfl rfl) <| rl_nil <| run_block <| Run.keep [0, 1, 2, 7, 8] (F' := [(0, _), (1, _), (2, _), (7, _), (8, _)]) rfl <| run_loop1 (fun (i : Nat) => [(8, .int .i64 (i : Int))]) [0, 1, 2, 7] (fun (i : Nat) (w4 : World) => i ≤ T.length ∧ (∀ j : Int, 0 ≤ j → j < i → PlanA l kilns T j) ∧ Own w.heap.size w w4 [some (vch sb 3 l.n (fun j => iv (sT T i j)))]) (fun (i : Nat) => T.length - i) (0) ?_ (And.intro (by exact slot_int rfl (by first | omega)) (And.intro rfl (And.intro rfl (And.intro rfl (And.intro rfl trivial))))) ?_
 ·exact ⟨Nat.zero_le _, fun j a b => by omega, hO2⟩
 intro i w4 hIw4 ih5
 obtain ⟨hi, hA, hO1⟩ := hIw4
 show Run _ _ _ _ [(8, _), (0, _), (1, _), (2, _), (7, _)] _ _
 refine run_seq <| run_seq <| run_region <| rl_v rfl rfl rfl (ov_move rfl rfl) <| rl_v rfl rfl rfl (ov_move rfl rfl) <| rl_v rfl rfl rfl (ov_len rfl Try.underlying46 rfl) <| rl_v rfl rfl rfl (ov_lss rfl rfl rfl) <| rl_nil ?_
 first | refine run_cond_dec rfl (fun c1 => ?_) (fun c1 => ?_) | refine run_cond rfl (fun c1 => ?_) (fun c1 => ?_)
 ·refine run_skip <| run_seq <| run_block <| run_seq <| run_region <| rl_v rfl rfl rfl (ov_move rfl rfl) <| rl_v rfl rfl rfl (ov_move rfl rfl) <| rl_v rfl rfl rfl (ov_index rfl Try.underlying46 (by kernel_rfl) (s := 3) rfl rfl ⟨by omega, by omega⟩ (by exact hta (by omega))) ?_
  refine rl_v rfl rfl rfl (ov_loadE rfl Try.underlying54 rfl (by kernel_rfl) rfl ⟨by omega, by omega⟩ rfl (htr _ hO1.below)) ?_
  refine rl_ow rfl (ow_alloc _ rfl rfl rfl zero_54 rfl hO1) ?_
  rintro _ w6 ⟨t9, rfl, hO7, hs8⟩
  refine rl_ow rfl (ow_storeW rfl rfl (by kernel_rfl) hO7 0 rfl rfl (by rfl) rfl (by rfl)) ?_
  rintro _ w9 ⟨rfl, hO10, hs11⟩
  obtain ⟨q, hq⟩ : ∃ q : Trn, q = qT T i := ⟨_, rfl⟩
  have hOq : Own w.heap.size w w9 [some (lch t9 54 (trV q)), some (vch sb 3 l.n (fun j => iv (sT T i j)))] := by rw [hq]; exact hO10
  refine rl_nil <| run_seq <| run_seq ?_
  refine run_quiet_join mixed (by kernel_rfl) 64 (.bool (decide (¬ ((0 ≤ q.1 ∧ q.1 < l.n) ∧ q.2.1 < q.2.2 ∧ l.r q.1 ≤ q.2.1 ∧ q.2.2 ≤ l.d q.1)))) [0, 1, 2, 7, 8, 9] (fun hk12 => ?_) (fun n13 => ?_)
  ·refine rq_v rfl rfl rfl (fun _ => ov_fieldS rfl Try.underlying54 rfl (fo := 0) rfl (by kernel_rfl) rfl) ?_
   refine rq_v rfl rfl rfl (fun _ => ov_load rfl Try.underlying3 rfl rfl (by show World.cell? w9 _ = _; first | exact hOq.cellL 0 rfl (off := 0) rfl)) ?_
   refine rq_v rfl rfl rfl (fun _ => ov_lss rfl rfl rfl) ?_
   refine rq_v rfl rfl rfl (fun _ => ov_move rfl rfl) ?_
   first | refine rq_split_dec 29 rfl (fun hg14 => ?_) (fun hg14 => ?_) | refine rq_split 29 rfl (fun hg14 => ?_) (fun hg14 => ?_)
   ·refine rq_gskip rfl rfl rfl rfl rfl rfl <| rq_gskip rfl rfl rfl rfl rfl rfl <| rq_gskip rfl rfl rfl rfl rfl rfl <| rq_gskip rfl rfl rfl rfl rfl rfl <| rq_gskip rfl rfl rfl rfl rfl rfl <| rq_v rfl rfl rfl (fun _ => ov_pick_t rfl rfl rfl) ?_
    refine rq_v rfl rfl rfl (fun _ => ov_move rfl rfl) ?_
    refine rq_gskip rfl rfl rfl rfl rfl rfl <| rq_gskip rfl rfl rfl rfl rfl rfl <| rq_gskip rfl rfl rfl rfl rfl rfl <| rq_gskip rfl rfl rfl rfl rfl rfl <| rq_gskip rfl rfl rfl rfl rfl rfl <| rq_v rfl rfl rfl (fun _ => ov_pick_t rfl rfl rfl) ?_
    refine rq_v rfl rfl rfl (fun _ => ov_move rfl rfl) ?_
    refine rq_gskip rfl rfl rfl rfl rfl rfl <| rq_gskip rfl rfl rfl rfl rfl rfl <| rq_gskip rfl rfl rfl rfl rfl rfl <| rq_gskip rfl rfl rfl rfl rfl rfl <| rq_gskip rfl rfl rfl rfl rfl rfl <| rq_gskip rfl rfl rfl rfl rfl rfl <| rq_gskip rfl rfl rfl rfl rfl rfl <| rq_gskip rfl rfl rfl rfl rfl rfl <| rq_gskip rfl rfl rfl rfl rfl rfl <| rq_v rfl rfl rfl (fun _ => ov_pick_t rfl rfl rfl) ?_
    refine rq_v rfl rfl rfl (fun _ => ov_move rfl rfl) ?_
    refine rq_gskip rfl rfl rfl rfl rfl rfl <| rq_gskip rfl rfl rfl rfl rfl rfl <| rq_gskip rfl rfl rfl rfl rfl rfl <| rq_gskip rfl rfl rfl rfl rfl rfl <| rq_gskip rfl rfl rfl rfl rfl rfl <| rq_gskip rfl rfl rfl rfl rfl rfl <| rq_gskip rfl rfl rfl rfl rfl rfl <| rq_gskip rfl rfl rfl rfl rfl rfl <| rq_gskip rfl rfl rfl rfl rfl rfl <| rq_v rfl rfl rfl (fun _ => ov_pick_t rfl rfl rfl) ?_
    refine rq_nil (fun n => hk12 n _ (jbt rfl (by omega)) (And.intro rfl (And.intro rfl (And.intro rfl (And.intro rfl (And.intro rfl (And.intro rfl trivial)))))))
   ·refine rq_gv rfl rfl rfl rfl rfl (fun _ => ov_fieldS rfl Try.underlying54 rfl (fo := 0) rfl (by kernel_rfl) rfl) ?_
    refine rq_gv rfl rfl rfl rfl rfl (fun _ => ov_load rfl Try.underlying3 rfl rfl (by show World.cell? w9 _ = _; first | exact hOq.cellL 0 rfl (off := 0) rfl)) ?_
    refine rq_gv rfl rfl rfl rfl rfl (fun _ => ov_move rfl rfl) ?_
    refine rq_gv rfl rfl rfl rfl rfl (fun _ => ov_len rfl Try.underlying22 rfl) ?_
    refine rq_gv rfl rfl rfl rfl rfl (fun _ => ov_geq rfl rfl rfl) ?_
    refine rq_v rfl rfl rfl (fun _ => ov_pick_f rfl rfl rfl) ?_
    refine rq_v rfl rfl rfl (fun _ => ov_move rfl rfl) ?_
    first | refine rq_split_dec 36 rfl (fun hg15 => ?_) (fun hg15 => ?_) | refine rq_split 36 rfl (fun hg15 => ?_) (fun hg15 => ?_)
    ·refine rq_gskip rfl rfl rfl rfl rfl rfl <| rq_gskip rfl rfl rfl rfl rfl rfl <| rq_gskip rfl rfl rfl rfl rfl rfl <| rq_gskip rfl rfl rfl rfl rfl rfl <| rq_gskip rfl rfl rfl rfl rfl rfl <| rq_v rfl rfl rfl (fun _ => ov_pick_t rfl rfl rfl) ?_
     refine rq_v rfl rfl rfl (fun _ => ov_move rfl rfl) ?_
     refine rq_gskip rfl rfl rfl rfl rfl rfl <| rq_gskip rfl rfl rfl rfl rfl rfl <| rq_gskip rfl rfl rfl rfl rfl rfl <| rq_gskip rfl rfl rfl rfl rfl rfl <| rq_gskip rfl rfl rfl rfl rfl rfl <| rq_gskip rfl rfl rfl rfl rfl rfl <| rq_gskip rfl rfl rfl rfl rfl rfl <| rq_gskip rfl rfl rfl rfl rfl rfl <| rq_gskip rfl rfl rfl rfl rfl rfl <| rq_v rfl rfl rfl (fun _ => ov_pick_t rfl rfl rfl) ?_
     refine rq_v rfl rfl rfl (fun _ => ov_move rfl rfl) ?_
     refine rq_gskip rfl rfl rfl rfl rfl rfl <| rq_gskip rfl rfl rfl rfl rfl rfl <| rq_gskip rfl rfl rfl rfl rfl rfl <| rq_gskip rfl rfl rfl rfl rfl rfl <| rq_gskip rfl rfl rfl rfl rfl rfl <| rq_gskip rfl rfl rfl rfl rfl rfl <| rq_gskip rfl rfl rfl rfl rfl rfl <| rq_gskip rfl rfl rfl rfl rfl rfl <| rq_gskip rfl rfl rfl rfl rfl rfl <| rq_v rfl rfl rfl (fun _ => ov_pick_t rfl rfl rfl) ?_
     refine rq_nil (fun n => hk12 n _ (jbt rfl (by omega)) (And.intro rfl (And.intro rfl (And.intro rfl (And.intro rfl (And.intro rfl (And.intro rfl trivial)))))))
    ·refine rq_gv rfl rfl rfl rfl rfl (fun _ => ov_fieldS rfl Try.underlying54 rfl (fo := 1) rfl (by kernel_rfl) rfl) ?_
     refine rq_gv rfl rfl rfl rfl rfl (fun _ => ov_load rfl Try.underlying3 rfl rfl (by show World.cell? w9 _ = _; first | exact hOq.cellL 0 rfl (off := 1) rfl)) ?_
     refine rq_gv rfl rfl rfl rfl rfl (fun _ => ov_fieldS rfl Try.underlying54 rfl (fo := 2) rfl (by kernel_rfl) rfl) ?_
     refine rq_gv rfl rfl rfl rfl rfl (fun _ => ov_load rfl Try.underlying3 rfl rfl (by show World.cell? w9 _ = _; first | exact hOq.cellL 0 rfl (off := 2) rfl)) ?_
     refine rq_gv rfl rfl rfl rfl rfl (fun _ => ov_geq rfl rfl rfl) ?_
     refine rq_v rfl rfl rfl (fun _ => ov_pick_f rfl rfl rfl) ?_
     refine rq_v rfl rfl rfl (fun _ => ov_move rfl rfl) ?_
     first | refine rq_split_dec 43 rfl (fun hg16 => ?_) (fun hg16 => ?_) | refine rq_split 43 rfl (fun hg16 => ?_) (fun hg16 => ?_)
     ·refine rq_gskip rfl rfl rfl rfl rfl rfl <| rq_gskip rfl rfl rfl rfl rfl rfl <| rq_gskip rfl rfl rfl rfl rfl rfl <| rq_gskip rfl rfl rfl rfl rfl rfl <| rq_gskip rfl rfl rfl rfl rfl rfl <| rq_gskip rfl rfl rfl rfl rfl rfl <| rq_gskip rfl rfl rfl rfl rfl rfl <| rq_gskip rfl rfl rfl rfl rfl rfl <| rq_gskip rfl rfl rfl rfl rfl rfl <| rq_v rfl rfl rfl (fun _ => ov_pick_t rfl rfl rfl) ?_
      refine rq_v rfl rfl rfl (fun _ => ov_move rfl rfl) ?_
      refine rq_gskip rfl rfl rfl rfl rfl rfl <| rq_gskip rfl rfl rfl rfl rfl rfl <| rq_gskip rfl rfl rfl rfl rfl rfl <| rq_gskip rfl rfl rfl rfl rfl rfl <| rq_gskip rfl rfl rfl rfl rfl rfl <| rq_gskip rfl rfl rfl rfl rfl rfl <| rq_gskip rfl rfl rfl rfl rfl rfl <| rq_gskip rfl rfl rfl rfl rfl rfl <| rq_gskip rfl rfl rfl rfl rfl rfl <| rq_v rfl rfl rfl (fun _ => ov_pick_t rfl rfl rfl) ?_
      refine rq_nil (fun n => hk12 n _ (jbt rfl (by omega)) (And.intro rfl (And.intro rfl (And.intro rfl (And.intro rfl (And.intro rfl (And.intro rfl trivial)))))))
     ·refine rq_gv rfl rfl rfl rfl rfl (fun _ => ov_fieldS rfl Try.underlying54 rfl (fo := 1) rfl (by kernel_rfl) rfl) ?_
      refine rq_gv rfl rfl rfl rfl rfl (fun _ => ov_load rfl Try.underlying3 rfl rfl (by show World.cell? w9 _ = _; first | exact hOq.cellL 0 rfl (off := 1) rfl)) ?_
      refine rq_gv rfl rfl rfl rfl rfl (fun _ => ov_move rfl rfl) ?_
      refine rq_gv rfl rfl rfl rfl rfl (fun _ => ov_fieldS rfl Try.underlying54 rfl (fo := 0) rfl (by kernel_rfl) rfl) ?_
      refine rq_gv rfl rfl rfl rfl rfl (fun _ => ov_load rfl Try.underlying3 rfl rfl (by show World.cell? w9 _ = _; first | exact hOq.cellL 0 rfl (off := 0) rfl)) ?_
      refine rq_gv rfl rfl rfl rfl rfl (fun _ => ov_index rfl Try.underlying22 (by kernel_rfl) (s := 4) rfl rfl ⟨by omega, by omega⟩ (by exact hla (by omega))) ?_
      refine rq_gv rfl rfl rfl rfl rfl (fun _ => ov_fieldS rfl Try.underlying72 rfl (fo := 0) rfl (by kernel_rfl) rfl) ?_
      refine rq_gv rfl rfl rfl rfl rfl (fun _ => ov_load rfl Try.underlying3 rfl rfl (by show World.cell? w9 _ = _; first | exact hlr _ hOq.below q.1 (by omega) (by omega) 0 (by decide))) ?_
      refine rq_gv rfl rfl rfl rfl rfl (fun _ => ov_lss rfl rfl rfl) ?_
      refine rq_v rfl rfl rfl (fun _ => ov_pick_f rfl rfl rfl) ?_
      refine rq_v rfl rfl rfl (fun _ => ov_move rfl rfl) ?_
      first | refine rq_split_dec 54 rfl (fun hg17 => ?_) (fun hg17 => ?_) | refine rq_split 54 rfl (fun hg17 => ?_) (fun hg17 => ?_)
      ·refine rq_gskip rfl rfl rfl rfl rfl rfl <| rq_gskip rfl rfl rfl rfl rfl rfl <| rq_gskip rfl rfl rfl rfl rfl rfl <| rq_gskip rfl rfl rfl rfl rfl rfl <| rq_gskip rfl rfl rfl rfl rfl rfl <| rq_gskip rfl rfl rfl rfl rfl rfl <| rq_gskip rfl rfl rfl rfl rfl rfl <| rq_gskip rfl rfl rfl rfl rfl rfl <| rq_gskip rfl rfl rfl rfl rfl rfl <| rq_v rfl rfl rfl (fun _ => ov_pick_t rfl rfl rfl) ?_
       refine rq_nil (fun n => hk12 n _ (jbt rfl (by omega)) (And.intro rfl (And.intro rfl (And.intro rfl (And.intro rfl (And.intro rfl (And.intro rfl trivial)))))))
      ·refine rq_gv rfl rfl rfl rfl rfl (fun _ => ov_fieldS rfl Try.underlying54 rfl (fo := 2) rfl (by kernel_rfl) rfl) ?_
       refine rq_gv rfl rfl rfl rfl rfl (fun _ => ov_load rfl Try.underlying3 rfl rfl (by show World.cell? w9 _ = _; first | exact hOq.cellL 0 rfl (off := 2) rfl)) ?_
       refine rq_gv rfl rfl rfl rfl rfl (fun _ => ov_move rfl rfl) ?_
       refine rq_gv rfl rfl rfl rfl rfl (fun _ => ov_fieldS rfl Try.underlying54 rfl (fo := 0) rfl (by kernel_rfl) rfl) ?_
       refine rq_gv rfl rfl rfl rfl rfl (fun _ => ov_load rfl Try.underlying3 rfl rfl (by show World.cell? w9 _ = _; first | exact hOq.cellL 0 rfl (off := 0) rfl)) ?_
       refine rq_gv rfl rfl rfl rfl rfl (fun _ => ov_index rfl Try.underlying22 (by kernel_rfl) (s := 4) rfl rfl ⟨by omega, by omega⟩ (by exact hla (by omega))) ?_
       refine rq_gv rfl rfl rfl rfl rfl (fun _ => ov_fieldS rfl Try.underlying72 rfl (fo := 1) rfl (by kernel_rfl) rfl) ?_
       refine rq_gv rfl rfl rfl rfl rfl (fun _ => ov_load rfl Try.underlying3 rfl rfl (by show World.cell? w9 _ = _; first | exact hlr _ hOq.below q.1 (by omega) (by omega) 1 (by decide))) ?_
       refine rq_gv rfl rfl rfl rfl rfl (fun _ => ov_gtr rfl rfl rfl) ?_
       refine rq_v rfl rfl rfl (fun _ => ov_pick_f rfl rfl rfl) ?_
       refine rq_nil (fun n => hk12 n _ (jbd rfl (by omega)) (And.intro rfl (And.intro rfl (And.intro rfl (And.intro rfl (And.intro rfl (And.intro rfl trivial)))))))
  ·have hO19 := hOq.drewN n13
   generalize World.drewN w9 n13 = w18 at hO19 ⊢
   show Run _ _ _ _ [(64, _), (0, _), (1, _), (2, _), (7, _), (8, _), (9, _)] _ _
   first | refine run_cond_dec rfl (fun c2 => ?_) (fun c2 => ?_) | refine run_cond rfl (fun c2 => ?_) (fun c2 => ?_)
   ·refine run_seq <| run_region <| rl_v rfl rfl rfl (ov_assign rfl rfl) <| rl_nil <| run_ret Try.func25 (res1 Try.results25 rfl) ?_
    exact ⟨by rw [hno i (by omega) c1 fun h => c2 (hq ▸ h.ok)], hO19.sub (List.nil_sublist _)⟩
   ·have c2' : (0 ≤ q.1 ∧ q.1 < l.n) ∧ q.2.1 < q.2.2 ∧ l.r q.1 ≤ q.2.1 ∧ q.2.2 ≤ l.d q.1 := Classical.not_not.1 c2
    have hlen1 := hV.r0 q.1 c2'.1.1 c2'.1.2
    have hlen2 := hV.dM q.1 c2'.1.1 c2'.1.2
    have hS0 : 0 ≤ sT T i q.1 := sm_nonneg fun a a0 a1 => Int.mul_nonneg (ind_rng _).1 (by have := (hA a a0 a1).ok; unfold OkT at this; omega)
    have hS1 : sT T i q.1 ≤ i * 1000000000 := sm_bound 1000000000 (by omega) fun a a0 a1 => by
     have h1 := (hA a a0 a1).ok
     unfold OkT at h1
     have h2 := hV.r0 _ h1.1.1 h1.1.2
     have h3 := hV.dM _ h1.1.1 h1.1.2
     rcases ind_01z ((qT T a).1 = q.1) with e | e <;> (rw [e]; omega)
    refine run_skip <| run_seq <| run_tail 15 mixed (by kernel_rfl) ?_
    have hO21 := hO19.drew
    generalize World.drew w18 = w20 at hO21 ⊢
    refine rt_v rfl rfl rfl (ov_move rfl rfl) <| rt_v rfl rfl rfl (ov_fieldS rfl Try.underlying54 rfl (fo := 0) rfl (by kernel_rfl) rfl) ?_
    refine rt_v rfl rfl rfl (ov_load rfl Try.underlying3 rfl rfl (by exact hO21.cellL 0 rfl (off := 0) rfl)) ?_
    refine rt_v rfl rfl rfl (ov_move rfl rfl) <| rt_v rfl rfl rfl (ov_fieldS rfl Try.underlying54 rfl (fo := 0) rfl (by kernel_rfl) rfl) ?_
    refine rt_v rfl rfl rfl (ov_load rfl Try.underlying3 rfl rfl (by exact hO21.cellL 0 rfl (off := 0) rfl)) ?_
    refine rt_v rfl rfl rfl (ov_index1 rfl Try.underlying47 (by kernel_rfl) rfl rfl ⟨by omega, by omega⟩ (by rfl)) ?_
    refine rt_v rfl rfl rfl (ov_load rfl Try.underlying3 rfl rfl (by exact hO21.cellI 1 rfl q.1 c2'.1.1 c2'.1.2)) ?_
    refine rt_v rfl rfl rfl (ov_fieldS rfl Try.underlying54 rfl (fo := 2) rfl (by kernel_rfl) rfl) ?_
    refine rt_v rfl rfl rfl (ov_load rfl Try.underlying3 rfl rfl (by exact hO21.cellL 0 rfl (off := 2) rfl)) ?_
    refine rt_v rfl rfl rfl (ov_add rfl rfl rfl (by omega)) ?_
    refine rt_v rfl rfl rfl (ov_fieldS rfl Try.underlying54 rfl (fo := 1) rfl (by kernel_rfl) rfl) ?_
    refine rt_v rfl rfl rfl (ov_load rfl Try.underlying3 rfl rfl (by exact hO21.cellL 0 rfl (off := 1) rfl)) ?_
    refine rt_v rfl rfl rfl (ov_sub rfl rfl rfl (by omega)) ?_
    refine rt_v rfl rfl rfl (ov_index1 rfl Try.underlying47 (by kernel_rfl) rfl rfl ⟨by omega, by omega⟩ (by rfl)) ?_
    refine rt_nil <| rl_ow rfl (ow_storeI rfl rfl (by kernel_rfl) hO21 1 rfl rfl ⟨by omega, by omega⟩ rfl) ?_
    rintro _ w22 ⟨rfl, hO23, hs24⟩
    have hOs := hO23.congrI 1 rfl (G' := fun j => iv (sT T ((i + 1 : Nat) : Int) j)) (fun v _ _ => by
     rw [sT_step, ← hq])
    refine rl_nil <| run_seq <| run_region <| rl_v rfl rfl rfl (ov_assign rfl rfl) <| rl_nil <| run_seq <| run_seq <| run_region <| rl_v rfl rfl rfl (ov_assign rfl rfl) <| rl_nil <| run_block <| Run.keep [0, 1, 2, 7, 8, 9, 10, 11] (F' := [(0, _), (1, _), (2, _), (7, _), (8, _), (9, _), (10, _), (11, _)]) rfl <| run_loop2 (fun (k : Nat) (m : Int) => [(11, .int .i64 (k : Int)), (10, .int .i64 m)]) [0, 1, 2, 7, 8, 9] (fun (k : Nat) (m : Int) (w25 : World) => k ≤ T.length ∧ m = sm (fun k => ind ((qT T k).2.1 ≤ q.2.1 ∧ q.2.1 < (qT T k).2.2)) k ∧ (∀ a : Int, 0 ≤ a → a < k → a ≠ i → (qT T a).2.1 ≤ q.2.1 ∧ q.2.1 < (qT T a).2.2 → (qT T a).1 ≠ q.1) ∧ Own w.heap.size w w25 [some (lch t9 54 (trV q)), some (vch sb 3 l.n (fun j => iv (sT T ((i + 1 : Nat) : Int) j)))]) (fun (k : Nat) (m : Int) => T.length - k) (0) (0) ?_ (And.intro (by exact slot_int rfl (by first | omega)) (And.intro (by exact slot_int rfl (by first | omega)) (And.intro rfl (And.intro rfl (And.intro rfl (And.intro rfl (And.intro rfl (And.intro rfl trivial)))))))) ?_
    ·exact ⟨Nat.zero_le _, rfl, fun a b c => by omega, hOs⟩
    intro k m w25 hIw25 ih26
    obtain ⟨hk, hm, hne, hO3⟩ := hIw25
    show Run _ _ _ _ [(11, _), (10, _), (0, _), (1, _), (2, _), (7, _), (8, _), (9, _)] _ _
    refine run_seq <| run_seq <| run_region <| rl_v rfl rfl rfl (ov_move rfl rfl) <| rl_v rfl rfl rfl (ov_move rfl rfl) <| rl_v rfl rfl rfl (ov_len rfl Try.underlying46 rfl) <| rl_v rfl rfl rfl (ov_lss rfl rfl rfl) <| rl_nil ?_
    first | refine run_cond_dec rfl (fun c3 => ?_) (fun c3 => ?_) | refine run_cond rfl (fun c3 => ?_) (fun c3 => ?_)
    ·obtain ⟨u, hu⟩ : ∃ u : Trn, u = qT T k := ⟨_, rfl⟩
     have hm0 : 0 ≤ m := by rw [hm]; exact sm_nonneg fun _ _ _ => (ind_rng _).1
     have hm1 : m ≤ k * 1 := by rw [hm]; exact sm_bound 1 (by omega) fun _ _ _ => (ind_rng _).2
     have hms : ∀ z : Int, z = ind (u.2.1 ≤ q.2.1 ∧ q.2.1 < u.2.2) → m + z = sm (fun k => ind ((qT T k).2.1 ≤ q.2.1 ∧ q.2.1 < (qT T k).2.2)) ((k + 1 : Nat) : Int) := fun z hz => by
      rw [show ((k + 1 : Nat) : Int) = (k : Int) + 1 by omega, sm_succ _ (by omega), ← hm, ← hu, hz]
     refine run_skip <| run_seq <| run_block <| run_seq ?_
     refine run_quiet_join mixed (by kernel_rfl) 103 (.bool (decide (u.2.1 ≤ q.2.1 ∧ q.2.1 < u.2.2))) [0, 1, 2, 7, 8, 9, 10, 11] (fun hk27 => ?_) (fun n28 => ?_)
     ·refine rq_v rfl rfl rfl (fun _ => ov_move rfl rfl) ?_
      refine rq_v rfl rfl rfl (fun _ => ov_move rfl rfl) ?_
      refine rq_v rfl rfl rfl (fun _ => ov_index rfl Try.underlying46 (by kernel_rfl) (s := 3) rfl rfl ⟨by omega, by omega⟩ (by exact hta (by omega))) ?_
      refine rq_v rfl rfl rfl (fun _ => ov_fieldS rfl Try.underlying54 rfl (fo := 1) rfl (by kernel_rfl) rfl) ?_
      refine rq_v rfl rfl rfl (fun _ => ov_load rfl Try.underlying3 rfl rfl (by show World.cell? w25 _ = _; first | exact (htr _ hO3.below k (by omega) (by omega) 1 (by decide)).trans (congrArg (fun z : Trn => some (iv z.2.1)) hu.symm))) ?_
      refine rq_v rfl rfl rfl (fun _ => ov_fieldS rfl Try.underlying54 rfl (fo := 1) rfl (by kernel_rfl) rfl) ?_
      refine rq_v rfl rfl rfl (fun _ => ov_load rfl Try.underlying3 rfl rfl (by show World.cell? w25 _ = _; first | exact hO3.cellL 0 rfl (off := 1) rfl)) ?_
      refine rq_v rfl rfl rfl (fun _ => ov_leq rfl rfl rfl) ?_
      refine rq_v rfl rfl rfl (fun _ => ov_move rfl rfl) ?_
      first | refine rq_split_dec 94 rfl (fun hg29 => ?_) (fun hg29 => ?_) | refine rq_split 94 rfl (fun hg29 => ?_) (fun hg29 => ?_)
      ·refine rq_gv rfl rfl rfl rfl rfl (fun _ => ov_fieldS rfl Try.underlying54 rfl (fo := 1) rfl (by kernel_rfl) rfl) ?_
       refine rq_gv rfl rfl rfl rfl rfl (fun _ => ov_load rfl Try.underlying3 rfl rfl (by show World.cell? w25 _ = _; first | exact hO3.cellL 0 rfl (off := 1) rfl)) ?_
       refine rq_gv rfl rfl rfl rfl rfl (fun _ => ov_move rfl rfl) ?_
       refine rq_gv rfl rfl rfl rfl rfl (fun _ => ov_move rfl rfl) ?_
       refine rq_gv rfl rfl rfl rfl rfl (fun _ => ov_index rfl Try.underlying46 (by kernel_rfl) (s := 3) rfl rfl ⟨by omega, by omega⟩ (by exact hta (by omega))) ?_
       refine rq_gv rfl rfl rfl rfl rfl (fun _ => ov_fieldS rfl Try.underlying54 rfl (fo := 2) rfl (by kernel_rfl) rfl) ?_
       refine rq_gv rfl rfl rfl rfl rfl (fun _ => ov_load rfl Try.underlying3 rfl rfl (by show World.cell? w25 _ = _; first | exact (htr _ hO3.below k (by omega) (by omega) 2 (by decide)).trans (congrArg (fun z : Trn => some (iv z.2.2)) hu.symm))) ?_
       refine rq_gv rfl rfl rfl rfl rfl (fun _ => ov_lss rfl rfl rfl) ?_
       refine rq_v rfl rfl rfl (fun _ => ov_pick_t rfl rfl rfl) ?_
       refine rq_nil (fun n => hk27 n _ (jbd rfl (by omega)) (And.intro rfl (And.intro rfl (And.intro rfl (And.intro rfl (And.intro rfl (And.intro rfl (And.intro rfl (And.intro rfl trivial)))))))))
      ·refine rq_gskip rfl rfl rfl rfl rfl rfl <| rq_gskip rfl rfl rfl rfl rfl rfl <| rq_gskip rfl rfl rfl rfl rfl rfl <| rq_gskip rfl rfl rfl rfl rfl rfl <| rq_gskip rfl rfl rfl rfl rfl rfl <| rq_gskip rfl rfl rfl rfl rfl rfl <| rq_gskip rfl rfl rfl rfl rfl rfl <| rq_gskip rfl rfl rfl rfl rfl rfl <| rq_v rfl rfl rfl (fun _ => ov_pick_f rfl rfl rfl) ?_
       refine rq_nil (fun n => hk27 n _ (jbf rfl (by omega)) (And.intro rfl (And.intro rfl (And.intro rfl (And.intro rfl (And.intro rfl (And.intro rfl (And.intro rfl (And.intro rfl trivial)))))))))
     ·have hO31 := hO3.drewN n28
      generalize World.drewN w25 n28 = w30 at hO31 ⊢
      show Run _ _ _ _ [(103, _), (0, _), (1, _), (2, _), (7, _), (8, _), (9, _), (10, _), (11, _)] _ _
      first | refine run_cond_dec rfl (fun c4 => ?_) (fun c4 => ?_) | refine run_cond rfl (fun c4 => ?_) (fun c4 => ?_)
      ·refine run_seq <| run_region <| rl_v rfl rfl rfl (ov_move rfl rfl) <| rl_v rfl rfl rfl (ov_add rfl rfl rfl (by omega)) ?_
       refine rl_v rfl rfl rfl (ov_assign rfl rfl) <| rl_nil <| run_seq ?_
       refine run_quiet_join mixed (by kernel_rfl) 118 (.bool (decide ((k : Int) ≠ i ∧ u.1 = q.1))) [0, 1, 2, 7, 8, 9, 10, 11] (fun hk32 => ?_) (fun n33 => ?_)
       ·refine rq_v rfl rfl rfl (fun _ => ov_move rfl rfl) ?_
        refine rq_v rfl rfl rfl (fun _ => ov_move rfl rfl) ?_
        refine rq_v rfl rfl rfl (fun _ => ov_neq rfl rfl rfl) ?_
        refine rq_v rfl rfl rfl (fun _ => ov_move rfl rfl) ?_
        first | refine rq_split_dec 109 rfl (fun hg34 => ?_) (fun hg34 => ?_) | refine rq_split 109 rfl (fun hg34 => ?_) (fun hg34 => ?_)
        ·refine rq_gv rfl rfl rfl rfl rfl (fun _ => ov_move rfl rfl) ?_
         refine rq_gv rfl rfl rfl rfl rfl (fun _ => ov_move rfl rfl) ?_
         refine rq_gv rfl rfl rfl rfl rfl (fun _ => ov_index rfl Try.underlying46 (by kernel_rfl) (s := 3) rfl rfl ⟨by omega, by omega⟩ (by exact hta (by omega))) ?_
         refine rq_gv rfl rfl rfl rfl rfl (fun _ => ov_fieldS rfl Try.underlying54 rfl (fo := 0) rfl (by kernel_rfl) rfl) ?_
         refine rq_gv rfl rfl rfl rfl rfl (fun _ => ov_load rfl Try.underlying3 rfl rfl (by show World.cell? w30 _ = _; first | exact (htr _ hO31.below k (by omega) (by omega) 0 (by decide)).trans (congrArg (fun z : Trn => some (iv z.1)) hu.symm))) ?_
         refine rq_gv rfl rfl rfl rfl rfl (fun _ => ov_fieldS rfl Try.underlying54 rfl (fo := 0) rfl (by kernel_rfl) rfl) ?_
         refine rq_gv rfl rfl rfl rfl rfl (fun _ => ov_load rfl Try.underlying3 rfl rfl (by show World.cell? w30 _ = _; first | exact hO31.cellL 0 rfl (off := 0) rfl)) ?_
         refine rq_gv rfl rfl rfl rfl rfl (fun _ => ov_eql rfl rfl rfl) ?_
         refine rq_v rfl rfl rfl (fun _ => ov_pick_t rfl rfl rfl) ?_
         refine rq_nil (fun n => hk32 n _ (jbd rfl (by omega)) (And.intro rfl (And.intro rfl (And.intro rfl (And.intro rfl (And.intro rfl (And.intro rfl (And.intro rfl (And.intro rfl trivial)))))))))
        ·refine rq_gskip rfl rfl rfl rfl rfl rfl <| rq_gskip rfl rfl rfl rfl rfl rfl <| rq_gskip rfl rfl rfl rfl rfl rfl <| rq_gskip rfl rfl rfl rfl rfl rfl <| rq_gskip rfl rfl rfl rfl rfl rfl <| rq_gskip rfl rfl rfl rfl rfl rfl <| rq_gskip rfl rfl rfl rfl rfl rfl <| rq_gskip rfl rfl rfl rfl rfl rfl <| rq_v rfl rfl rfl (fun _ => ov_pick_f rfl rfl rfl) ?_
         refine rq_nil (fun n => hk32 n _ (jbf rfl (by omega)) (And.intro rfl (And.intro rfl (And.intro rfl (And.intro rfl (And.intro rfl (And.intro rfl (And.intro rfl (And.intro rfl trivial)))))))))
       ·have hO36 := hO31.drewN n33
        generalize World.drewN w30 n33 = w35 at hO36 ⊢
        show Run _ _ _ _ [(118, _), (0, _), (1, _), (2, _), (7, _), (8, _), (9, _), (10, _), (11, _)] _ _
        first | refine run_cond_dec rfl (fun c5 => ?_) (fun c5 => ?_) | refine run_cond rfl (fun c5 => ?_) (fun c5 => ?_)
        ·refine run_seq <| run_region <| rl_v rfl rfl rfl (ov_assign rfl rfl) <| rl_nil <| run_ret Try.func25 (res1 Try.results25 rfl) ?_
         exact ⟨by rw [hno i (by omega) c1 fun h => h.one k (by omega) c3 c5.1 (by rw [← hu, ← hq]; exact c4) (by rw [← hu, ← hq]; exact c5.2)], hO36.sub (List.nil_sublist _)⟩
        ·have hne2 : ∀ a : Int, 0 ≤ a → a < ((k + 1 : Nat) : Int) → a ≠ i → (qT T a).2.1 ≤ q.2.1 ∧ q.2.1 < (qT T a).2.2 → (qT T a).1 ≠ q.1 := fun a a0 a1 hai hc => by
          by_cases e : a = (k : Int)
          ·rw [e, ← hu]; exact fun h => c5 ⟨by omega, h⟩
          ·exact hne a a0 (by omega) hai hc
         refine run_skip <| run_inBlock <| run_region <| rl_v rfl rfl rfl (ov_move rfl rfl) <| rl_v rfl rfl rfl (ov_add rfl rfl rfl (by omega)) ?_
         refine rl_v rfl rfl rfl (ov_assign rfl rfl) <| rl_nil ?_
         refine Run.use (ih26 (k + 1) (m + 1) _ ?_ ?_) (And.intro (by exact slot_int rfl (by first | omega)) (And.intro (by exact slot_int rfl (by first | omega)) (And.intro rfl (And.intro rfl (And.intro rfl (And.intro rfl (And.intro rfl (And.intro rfl trivial))))))))
         ·first | omega | (dsimp only; omega)
         ·exact ⟨by omega, hms 1 (ind_t c4).symm, hne2, hO36⟩
      ·have hne2 : ∀ a : Int, 0 ≤ a → a < ((k + 1 : Nat) : Int) → a ≠ i → (qT T a).2.1 ≤ q.2.1 ∧ q.2.1 < (qT T a).2.2 → (qT T a).1 ≠ q.1 := fun a a0 a1 hai hc => by
        by_cases e : a = (k : Int)
        ·rw [e, ← hu] at hc; exact absurd hc c4
        ·exact hne a a0 (by omega) hai hc
       have hms0 := hms 0 (ind_f c4).symm
       refine run_skip <| run_inBlock <| run_region <| rl_v rfl rfl rfl (ov_move rfl rfl) <| rl_v rfl rfl rfl (ov_add rfl rfl rfl (by omega)) ?_
       refine rl_v rfl rfl rfl (ov_assign rfl rfl) <| rl_nil ?_
       refine Run.use (ih26 (k + 1) (m) _ ?_ ?_) (And.intro (by exact slot_int rfl (by first | omega)) (And.intro (by exact slot_int rfl (by first | omega)) (And.intro rfl (And.intro rfl (And.intro rfl (And.intro rfl (And.intro rfl (And.intro rfl trivial))))))))
       ·first | omega | (dsimp only; omega)
       ·exact ⟨by omega, by omega, hne2, hO31⟩
    ·have hkT : k = T.length := by omega
     rw [hkT] at hm hne
     refine run_exit rfl <| run_seq <| run_region <| rl_v rfl rfl rfl (ov_move rfl rfl) <| rl_v rfl rfl rfl (ov_move rfl rfl) <| rl_v rfl rfl rfl (ov_gtr rfl rfl rfl) <| rl_nil ?_
     first | refine run_cond_dec rfl (fun c6 => ?_) (fun c6 => ?_) | refine run_cond rfl (fun c6 => ?_) (fun c6 => ?_)
     ·refine run_seq <| run_region <| rl_v rfl rfl rfl (ov_assign rfl rfl) <| rl_nil <| run_ret Try.func25 (res1 Try.results25 rfl) ?_
      exact ⟨by rw [hno i (by omega) c1 fun h => by have h1 := h.kil; rw [← hq, ← hm] at h1; omega], hO3.sub (List.nil_sublist _)⟩
     ·have hA2 : ∀ j : Int, 0 ≤ j → j < ((i + 1 : Nat) : Int) → PlanA l kilns T j := fun j j0 j1 => by
       by_cases e : j = (i : Int)
       ·rw [e]; exact ⟨by rw [← hq]; exact c2', by rw [← hq, ← hm]; omega, fun a a0 a1 hai hc => by rw [← hq] at hc ⊢; exact hne a a0 a1 hai hc⟩
       ·exact hA j j0 (by omega)
      refine run_skip <| run_inBlock <| run_region <| rl_v rfl rfl rfl (ov_move rfl rfl) <| rl_v rfl rfl rfl (ov_add rfl rfl rfl (by omega)) ?_
      refine rl_v rfl rfl rfl (ov_assign rfl rfl) <| rl_nil ?_
      refine Run.use (ih5 (i + 1) _ ?_ ?_) (And.intro (by exact slot_int rfl (by first | omega)) (And.intro rfl (And.intro rfl (And.intro rfl (And.intro rfl trivial)))))
      ·first | omega | (dsimp only; omega)
      ·exact ⟨by omega, hA2, hO3.tail⟩
 ·have hiT : i = T.length := by omega
  rw [hiT] at hA
  have hOz := hO1
  rw [hiT] at hOz
  refine run_exit rfl <| run_seq <| run_seq <| run_region <| rl_v rfl rfl rfl (ov_assign rfl rfl) <| rl_nil <| run_block <| Run.keep [0, 7, 12] (F' := [(0, _), (7, _), (12, _)]) rfl <| run_loop1 (fun (j : Nat) => [(12, .int .i64 (j : Int))]) [0, 7] (fun (j : Nat) (w37 : World) => j ≤ l.n ∧ (∀ a : Int, 0 ≤ a → a < j → sT T T.length a = l.len a) ∧ Own w.heap.size w w37 [some (vch sb 3 l.n (fun j => iv (sT T T.length j)))]) (fun (j : Nat) => l.n - j) (0) ?_ (And.intro (by exact slot_int rfl (by first | omega)) (And.intro rfl (And.intro rfl trivial))) ?_
  ·exact ⟨Nat.zero_le _, fun a b c => by omega, hOz⟩
  intro j w37 hIw37 ih38
  obtain ⟨hj, hB, hO4⟩ := hIw37
  show Run _ _ _ _ [(12, _), (0, _), (7, _)] _ _
  refine run_seq <| run_seq <| run_region <| rl_v rfl rfl rfl (ov_move rfl rfl) <| rl_v rfl rfl rfl (ov_move rfl rfl) <| rl_v rfl rfl rfl (ov_len rfl Try.underlying22 rfl) <| rl_v rfl rfl rfl (ov_lss rfl rfl rfl) <| rl_nil ?_
  first | refine run_cond_dec rfl (fun c7 => ?_) (fun c7 => ?_) | refine run_cond rfl (fun c7 => ?_) (fun c7 => ?_)
  ·refine run_skip <| run_seq <| run_block <| run_seq <| run_quiet mixed (by kernel_rfl) ?_
   refine rq_v rfl rfl rfl (fun _ => ov_move rfl rfl) ?_
   refine rq_v rfl rfl rfl (fun _ => ov_move rfl rfl) ?_
   refine rq_v rfl rfl rfl (fun _ => ov_index1 rfl Try.underlying47 (by kernel_rfl) rfl rfl ⟨by omega, by omega⟩ (by rfl)) ?_
   refine rq_v rfl rfl rfl (fun _ => ov_load rfl Try.underlying3 rfl rfl (by show World.cell? w37 _ = _; first | exact hO4.cellI 0 rfl j (by omega) c7)) ?_
   refine rq_v rfl rfl rfl (fun _ => ov_move rfl rfl) ?_
   refine rq_v rfl rfl rfl (fun _ => ov_move rfl rfl) ?_
   refine rq_v rfl rfl rfl (fun _ => ov_index rfl Try.underlying22 (by kernel_rfl) (s := 4) rfl rfl ⟨by omega, by omega⟩ (by exact hla (by omega))) ?_
   refine rq_v rfl rfl rfl (fun _ => ov_fieldS rfl Try.underlying72 rfl (fo := 2) rfl (by kernel_rfl) rfl) ?_
   refine rq_v rfl rfl rfl (fun _ => ov_load rfl Try.underlying3 rfl rfl (by show World.cell? w37 _ = _; first | exact hlr _ hO4.below j (by omega) c7 2 (by decide))) ?_
   refine rq_v rfl rfl rfl (fun _ => ov_neq rfl rfl rfl) ?_
   refine rq_nil (fun n39 => ?_)
   have hO41 := hO4.drewN n39
   generalize World.drewN w37 n39 = w40 at hO41 ⊢
   first | refine run_cond_dec rfl (fun c8 => ?_) (fun c8 => ?_) | refine run_cond rfl (fun c8 => ?_) (fun c8 => ?_)
   ·refine run_seq <| run_region <| rl_v rfl rfl rfl (ov_assign rfl rfl) <| rl_nil <| run_ret Try.func25 (res1 Try.results25 rfl) ?_
    exact ⟨by rw [decide_eq_false fun h => c8 ((planX_iff.2 h).b j (by omega) c7)], hO41.sub (List.nil_sublist _)⟩
   ·have hB2 : ∀ a : Int, 0 ≤ a → a < ((j + 1 : Nat) : Int) → sT T T.length a = l.len a := fun a a0 a1 => by
     by_cases e : a = (j : Int)
     ·rw [e]; exact Classical.not_not.1 c8
     ·exact hB a a0 (by omega)
    refine run_skip <| run_inBlock <| run_region <| rl_v rfl rfl rfl (ov_move rfl rfl) <| rl_v rfl rfl rfl (ov_add rfl rfl rfl (by omega)) ?_
    refine rl_v rfl rfl rfl (ov_assign rfl rfl) <| rl_nil ?_
    refine Run.use (ih38 (j + 1) _ ?_ ?_) (And.intro (by exact slot_int rfl (by first | omega)) (And.intro rfl (And.intro rfl trivial)))
    ·first | omega | (dsimp only; omega)
    ·exact ⟨by omega, hB2, hO41⟩
  ·refine run_exit rfl <| run_seq <| run_region <| rl_v rfl rfl rfl (ov_assign rfl rfl) <| rl_nil <| run_ret Try.func25 (res1 Try.results25 rfl) ?_
   exact ⟨by rw [decide_eq_true (planX_iff.1 ⟨hA, fun a a0 a1 => hB a a0 (by omega)⟩)], hO4.sub (List.nil_sublist _)⟩
end Go.Proofs.Ytbepolognfdkeaa
