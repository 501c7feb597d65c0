import Derived.Test.YtlldeifbfpmbaaaGreatGow
set_option maxRecDepth 100000
namespace Go.Proofs.YtlldeifbfpmbaaaGreat
open Go.RowKit Go.Proofs Go.MapKept
def cnk (l : Int → Int) (k b : Int) : Int := sm (fun g => if l g = b then 1 else 0) k
theorem cnk_succ (l : Int → Int) {k b : Int} (k0 : 0 ≤ k) : cnk l (k + 1) b = cnk l k b + if l k = b then 1 else 0 := sm_succ _ k0
theorem cnk_nonneg (l : Int → Int) (k b : Int) : 0 ≤ cnk l k b := sm_nonneg fun g _ _ => by split <;> omega
theorem cnk_mono {l : Int → Int} {k b : Int} (k0 : 0 ≤ k) : ∀ d : Nat, cnk l k b ≤ cnk l (k + d) b
 | 0 => by rw [show k + ((0 : Nat) : Int) = k by omega]; exact Int.le_refl _
 | d + 1 => by
  have h := cnk_mono (l := l) (b := b) k0 d
  rw [show k + ((d + 1 : Nat) : Int) = k + d + 1 by omega, cnk_succ l (by omega)]
  split <;> omega
theorem cnk_le {f : Fair} {l : Int → Int} {k b : Int} (k0 : 0 ≤ k) (k1 : k ≤ f.n) : cnk l k b ≤ f.cnt l b := by
 have h := cnk_mono (l := l) (b := b) k0 (f.n - k).toNat
 rw [show k + ((f.n - k).toNat : Int) = f.n by omega] at h
 exact h
set_option maxHeartbeats 2000000 in
theorem possible5_any (tb : Nat) (la : Option Addr) (ln lc : Nat) (f : Fair) (l : Int → Int) (w : World) (hV : Valid5 f f.m) (hP : PT w.heap.size w tb f) (hln : ln ≤ 1000000) (hl : IAt w.heap.size w la ln (fun i => iv (l i))) :
  Calls Tryz.prog 53 #[ptr tb, .slice la ln lc] w fun e w' => (∃ b, e = .returned (.bool b) ∧ (b = true ↔ ln = f.n ∧ f.Poss l)) ∧ Below w.heap.size w w' := by
 have hs := hV.sm
 have hn := hs.n
 have hm := hs.m
 obtain ⟨ga, ba, qa, ma, na, gc, bc, qc, mc, nc, hL, hF, hM, hN⟩ := id hP
 have hT := hL.open
 obtain ⟨qb, qo, hqa, hqrow⟩ := hF.q.open
 obtain ⟨lb, lo, hla, hlrow⟩ := hl.open
 refine calls_of_run (F := [(0, _), (1, _)]) Tryz.func53 rfl Tryz.ntmps53 rfl rfl ?_
 have hO0 := Own.init w
 refine run_seq <| run_region <| rl_v rfl rfl rfl (ov_assign rfl rfl) <| rl_nil <| run_seq <| run_seq <| run_region <| rl_v rfl rfl rfl (ov_move rfl rfl) <| rl_v rfl rfl rfl (ov_len rfl Tryz.underlying23 rfl) <| rl_v rfl rfl rfl (ov_move rfl rfl) <| rl_v rfl rfl rfl (ov_nil rfl rfl) <| rl_v rfl rfl rfl (ov_fieldS rfl Tryz.underlying100 rfl (fo := 0) rfl (by kernel_rfl) rfl) ?_
 refine rl_v rfl rfl rfl (ov_fieldS rfl Tryz.underlying27 rfl (fo := 0) rfl (by kernel_rfl) rfl) ?_
 refine rl_v rfl rfl rfl (ov_load rfl Tryz.underlying22 rfl rfl (by exact hT _ hO0.below rfl)) ?_
 refine rl_v rfl rfl rfl (ov_len rfl Tryz.underlying22 rfl) <| rl_v rfl rfl rfl (ov_neq rfl rfl rfl) <| rl_nil ?_
 first | refine run_cond_dec rfl (fun h1 => ?_) (fun h1 => ?_) | refine run_cond rfl (fun h1 => ?_) (fun h1 => ?_)
 ·refine run_seq <| run_region <| rl_v rfl rfl rfl (ov_assign rfl rfl) <| rl_nil <| run_ret Tryz.func53 (res1 Tryz.results53 rfl) ?_
  exact ⟨⟨false, rfl, ⟨fun h => Bool.noConfusion h, fun h => absurd h.1 (by omega)⟩⟩, hO0.below⟩
 ·obtain rfl : ln = f.n := by omega
  refine run_skip <| run_seq <| run_region <| rl_v rfl rfl rfl (ov_move rfl rfl) <| rl_v rfl rfl rfl (ov_nil rfl rfl) <| rl_v rfl rfl rfl (ov_fieldS rfl Tryz.underlying100 rfl (fo := 0) rfl (by kernel_rfl) rfl) ?_
  refine rl_v rfl rfl rfl (ov_fieldS rfl Tryz.underlying27 rfl (fo := 1) rfl (by kernel_rfl) rfl) ?_
  refine rl_v rfl rfl rfl (ov_load rfl Tryz.underlying22 rfl rfl (by exact hT _ hO0.below rfl)) ?_
  refine rl_v rfl rfl rfl (ov_len rfl Tryz.underlying22 rfl) ?_
  refine rl_make (f.m) rfl rfl rfl rfl Tryz.underlying23 info_3 rfl hO0 rfl rfl (by rfl) (by rfl) ⟨by omega, by omega⟩ (fun hb w1 hO2 hs3 => ?_)
  refine rl_v rfl rfl rfl (ov_assign rfl rfl) <| rl_nil <| run_seq <| run_seq <| run_region <| rl_v rfl rfl rfl (ov_move rfl rfl) <| rl_v rfl rfl rfl (ov_len rfl Tryz.underlying23 rfl) <| rl_v rfl rfl rfl (ov_move rfl rfl) <| rl_nil <| run_block <| Run.keep [0, 5, 24, 25, 26] (F' := [(0, _), (5, _), (24, _), (25, _), (26, _)]) rfl <| run_loop1 (fun (k : Int) => [(26, .int .i64 k)]) [0, 5, 24, 25] (fun (k : Int) (w4 : World) => 0 ≤ k ∧ k ≤ f.n ∧ (∀ g : Int, 0 ≤ g → g < k → l g = -1 ∨ (0 ≤ l g ∧ l g < f.m) ∧ f.know g (l g)) ∧ (∀ b : Int, 0 ≤ b → b < f.m → cnk l k b ≤ f.q b) ∧ Own w.heap.size w w4 [some (vch hb 3 f.m (fun b => iv (cnk l k b)))]) (fun (k : Int) => ((f.n : Int) - k).toNat) (0) ?_ (And.intro (by exact slot_int rfl (by first | omega)) (And.intro rfl (And.intro rfl (And.intro rfl (And.intro rfl trivial))))) ?_
  ·exact ⟨by omega, by omega, fun g g0 g1 => by omega, fun b b0 b1 => (hs.q b b0 b1).1, hO2⟩
  intro k w4 hIw4 ih5
  obtain ⟨hk0, hk1, hat, hcn, hO⟩ := hIw4
  show Run _ _ _ _ [(26, _), (0, _), (5, _), (24, _), (25, _)] _ _
  refine run_seq <| run_region <| rl_v rfl rfl rfl (ov_lss rfl rfl rfl) <| rl_nil <| run_seq ?_
  first | refine run_cond_dec rfl (fun h2 => ?_) (fun h2 => ?_) | refine run_cond rfl (fun h2 => ?_) (fun h2 => ?_)
  ·refine run_skip <| run_seq <| run_block <| run_seq <| run_region <| rl_v rfl rfl rfl (ov_move rfl rfl) <| rl_v rfl rfl rfl (ov_index1 rfl Tryz.underlying23 (by kernel_rfl) rfl rfl ⟨by omega, by omega⟩ (by exact hla (by omega))) ?_
   refine rl_v rfl rfl rfl (ov_load rfl Tryz.underlying3 rfl rfl (by exact hlrow _ hO.below _ (by omega) (by omega))) ?_
   refine rl_v rfl rfl rfl (ov_assign rfl rfl) <| rl_v rfl rfl rfl (ov_assign rfl rfl) <| rl_nil <| run_seq <| run_seq <| run_region <| rl_v rfl rfl rfl (ov_move rfl rfl) <| rl_v rfl rfl rfl (ov_eql rfl rfl rfl) <| rl_nil ?_
   first | refine run_cond_dec rfl (fun h3 => ?_) (fun h3 => ?_) | refine run_cond rfl (fun h3 => ?_) (fun h3 => ?_)
   ·refine run_exit rfl <| run_region <| rl_v rfl rfl rfl (ov_add rfl rfl rfl (by omega)) ?_
    refine rl_v rfl rfl rfl (ov_move rfl rfl) <| rl_nil ?_
    refine Run.use (ih5 _ _ ?_ ?_) (And.intro (by rfl) (And.intro rfl (And.intro rfl (And.intro rfl (And.intro rfl trivial)))))
    ·first | omega | (dsimp only; omega)
    ·exact ⟨by omega, by omega, fun g g0 g1 => by by_cases e : g = k; (rw [e]; exact .inl h3); (exact hat g g0 (by omega)), fun b b0 b1 => by rw [cnk_succ l hk0, if_neg (by omega)]; have := hcn b b0 b1; omega, hO.congrI 0 rfl fun b b0 b1 => by rw [cnk_succ l hk0, if_neg (by omega), Int.add_zero]⟩
   ·refine run_skip <| run_seq <| run_seq <| run_region <| rl_v rfl rfl rfl (ov_move rfl rfl) <| rl_v rfl rfl rfl (ov_lss rfl rfl rfl) <| rl_v rfl rfl rfl (ov_move rfl rfl) ?_
    first | refine rl_split_dec 35 rfl (fun a1 => ?_) (fun a1 => ?_) | refine rl_split 35 rfl (fun a1 => ?_) (fun a1 => ?_)
    ·refine rl_gskip rfl rfl rfl rfl rfl rfl <| rl_gskip rfl rfl rfl rfl rfl rfl <| rl_gskip rfl rfl rfl rfl rfl rfl <| rl_gskip rfl rfl rfl rfl rfl rfl <| rl_v rfl rfl rfl (ov_pick_t rfl rfl rfl) <| rl_v rfl rfl rfl (ov_move rfl rfl) <| rl_gskip rfl rfl rfl rfl rfl rfl <| rl_gskip rfl rfl rfl rfl rfl rfl <| rl_gskip rfl rfl rfl rfl rfl rfl <| rl_gskip rfl rfl rfl rfl rfl rfl <| rl_gskip rfl rfl rfl rfl rfl rfl <| rl_v rfl rfl rfl (ov_pick_t rfl rfl rfl) <| rl_nil <| run_cond_t rfl <| run_seq <| run_region <| rl_v rfl rfl rfl (ov_assign rfl rfl) <| rl_nil <| run_ret Tryz.func53 (res1 Tryz.results53 rfl) ?_
     exact ⟨⟨false, rfl, ⟨fun h => Bool.noConfusion h, fun h => by have := h.2.at_ k hk0 h2; omega⟩⟩, hO.tail.below⟩
    ·refine rl_gv rfl rfl rfl rfl rfl (ov_move rfl rfl) <| rl_gv rfl rfl rfl rfl rfl (ov_move rfl rfl) <| rl_gv rfl rfl rfl rfl rfl (ov_len rfl Tryz.underlying23 rfl) <| rl_gv rfl rfl rfl rfl rfl (ov_geq rfl rfl rfl) <| rl_v rfl rfl rfl (ov_pick_f rfl rfl rfl) <| rl_v rfl rfl rfl (ov_move rfl rfl) ?_
     first | refine rl_split_dec 41 rfl (fun a2 => ?_) (fun a2 => ?_) | refine rl_split 41 rfl (fun a2 => ?_) (fun a2 => ?_)
     ·refine rl_gskip rfl rfl rfl rfl rfl rfl <| rl_gskip rfl rfl rfl rfl rfl rfl <| rl_gskip rfl rfl rfl rfl rfl rfl <| rl_gskip rfl rfl rfl rfl rfl rfl <| rl_gskip rfl rfl rfl rfl rfl rfl <| rl_v rfl rfl rfl (ov_pick_t rfl rfl rfl) <| rl_nil <| run_cond_t rfl <| run_seq <| run_region <| rl_v rfl rfl rfl (ov_assign rfl rfl) <| rl_nil <| run_ret Tryz.func53 (res1 Tryz.results53 rfl) ?_
      exact ⟨⟨false, rfl, ⟨fun h => Bool.noConfusion h, fun h => by have := h.2.at_ k hk0 h2; omega⟩⟩, hO.tail.below⟩
     ·refine rl_gv rfl rfl rfl rfl rfl (ov_move rfl rfl) <| rl_gv rfl rfl rfl rfl rfl (ov_move rfl rfl) <| rl_gv rfl rfl rfl rfl rfl (ov_move rfl rfl) ?_
      refine rl_gcall callable_79 rfl rfl rfl rfl rfl rfl rfl rfl (knows_any tb f _ k (l k) hV.ok (hO.pt hP) hk0 h2 (by omega) (by omega)) (fun e8 w9 hp10 => ?_)
      obtain ⟨rfl, hb1⟩ := hp10
      refine ⟨_, rfl, ?_⟩
      have hO11 := hO.past hb1
      refine rl_gv rfl rfl rfl rfl rfl (ov_not rfl rfl) <| rl_v rfl rfl rfl (ov_pick_f rfl rfl rfl) <| rl_nil ?_
      first | refine run_cond_dec rfl (fun h4 => ?_) (fun h4 => ?_) | refine run_cond rfl (fun h4 => ?_) (fun h4 => ?_)
      ·have hnk : ¬ f.know k (l k) := by simpa using h4
       refine run_seq <| run_region <| rl_v rfl rfl rfl (ov_assign rfl rfl) <| rl_nil <| run_ret Tryz.func53 (res1 Tryz.results53 rfl) ?_
       exact ⟨⟨false, rfl, ⟨fun h => Bool.noConfusion h, fun h => by rcases h.2.at_ k hk0 h2 with e | e; (exact absurd e h3); (exact absurd e.2 hnk)⟩⟩, hO11.tail.below⟩
      ·have hk : f.know k (l k) := by simpa using h4
       have hq := hs.q (l k) (by omega) (by omega)
       have hc := hcn (l k) (by omega) (by omega)
       have hc0 := cnk_nonneg l k (l k)
       refine run_skip <| run_seq <| run_region <| rl_v rfl rfl rfl (ov_move rfl rfl) <| rl_v rfl rfl rfl (ov_move rfl rfl) <| rl_v rfl rfl rfl (ov_index1 rfl Tryz.underlying23 (by kernel_rfl) rfl rfl ⟨by omega, by omega⟩ (by rfl)) ?_
       refine rl_v rfl rfl rfl (ov_load rfl Tryz.underlying3 rfl rfl (by exact hO11.cellI 0 rfl _ (by omega) (by omega))) ?_
       refine rl_v rfl rfl rfl (ov_add rfl rfl rfl (by omega)) ?_
       refine rl_v rfl rfl rfl (ov_index1 rfl Tryz.underlying23 (by kernel_rfl) rfl rfl ⟨by omega, by omega⟩ (by rfl)) ?_
       refine rl_ow rfl (ow_storeI rfl rfl (by kernel_rfl) hO11 0 rfl rfl ⟨by omega, by omega⟩ rfl) ?_
       rintro _ w12 ⟨rfl, hO13, hs14⟩
       have hOc : Own w.heap.size w w12 [some (vch hb 3 f.m (fun b => iv (cnk l (k + 1) b)))] := hO13.congrI 0 rfl fun b b0 b1 => by
        rw [cnk_succ l hk0]
        by_cases e : b = l k
        ·rw [e, upd_same, if_pos rfl]
        ·rw [upd_ne _ _ e, if_neg (fun h => e h.symm), Int.add_zero]
       refine rl_nil <| run_seq <| run_quiet mixed (by kernel_rfl) ?_
       refine rq_v rfl rfl rfl (fun _ => ov_move rfl rfl) ?_
       refine rq_v rfl rfl rfl (fun _ => ov_move rfl rfl) ?_
       refine rq_v rfl rfl rfl (fun _ => ov_index1 rfl Tryz.underlying23 (by kernel_rfl) rfl rfl ⟨by omega, by omega⟩ (by rfl)) ?_
       refine rq_v rfl rfl rfl (fun _ => ov_load rfl Tryz.underlying3 rfl rfl (by show World.cell? w12 _ = _; first | exact hT _ hOc.below rfl | exact hqrow _ hOc.below _ (by omega) (by omega) | exact hlrow _ hOc.below _ (by omega) (by omega) | exact hOc.cellI 0 rfl _ (by omega) (by omega) | exact hOc.cellL 0 rfl rfl | exact hOc.cellI 1 rfl _ (by omega) (by omega) | exact hOc.cellL 1 rfl rfl | exact hOc.cellI 2 rfl _ (by omega) (by omega) | exact hOc.cellL 2 rfl rfl | exact hOc.cellI 3 rfl _ (by omega) (by omega) | exact hOc.cellL 3 rfl rfl | exact hOc.cellI 4 rfl _ (by omega) (by omega) | exact hOc.cellL 4 rfl rfl | exact hOc.cellI 5 rfl _ (by omega) (by omega) | exact hOc.cellL 5 rfl rfl)) ?_
       refine rq_v rfl rfl rfl (fun _ => ov_move rfl rfl) ?_
       refine rq_v rfl rfl rfl (fun _ => ov_nil rfl rfl) ?_
       refine rq_v rfl rfl rfl (fun _ => ov_fieldS rfl Tryz.underlying100 rfl (fo := 0) rfl (by kernel_rfl) rfl) ?_
       refine rq_v rfl rfl rfl (fun _ => ov_fieldS rfl Tryz.underlying27 rfl (fo := 2) rfl (by kernel_rfl) rfl) ?_
       refine rq_v rfl rfl rfl (fun _ => ov_load rfl Tryz.underlying23 rfl rfl (by show World.cell? w12 _ = _; first | exact hT _ hOc.below rfl | exact hqrow _ hOc.below _ (by omega) (by omega) | exact hlrow _ hOc.below _ (by omega) (by omega) | exact hOc.cellI 0 rfl _ (by omega) (by omega) | exact hOc.cellL 0 rfl rfl | exact hOc.cellI 1 rfl _ (by omega) (by omega) | exact hOc.cellL 1 rfl rfl | exact hOc.cellI 2 rfl _ (by omega) (by omega) | exact hOc.cellL 2 rfl rfl | exact hOc.cellI 3 rfl _ (by omega) (by omega) | exact hOc.cellL 3 rfl rfl | exact hOc.cellI 4 rfl _ (by omega) (by omega) | exact hOc.cellL 4 rfl rfl | exact hOc.cellI 5 rfl _ (by omega) (by omega) | exact hOc.cellL 5 rfl rfl)) ?_
       refine rq_v rfl rfl rfl (fun _ => ov_move rfl rfl) ?_
       refine rq_v rfl rfl rfl (fun _ => ov_index1 rfl Tryz.underlying23 (by kernel_rfl) rfl rfl ⟨by omega, by omega⟩ (by exact hqa (by omega))) ?_
       refine rq_v rfl rfl rfl (fun _ => ov_load rfl Tryz.underlying3 rfl rfl (by show World.cell? w12 _ = _; first | exact hT _ hOc.below rfl | exact hqrow _ hOc.below _ (by omega) (by omega) | exact hlrow _ hOc.below _ (by omega) (by omega) | exact hOc.cellI 0 rfl _ (by omega) (by omega) | exact hOc.cellL 0 rfl rfl | exact hOc.cellI 1 rfl _ (by omega) (by omega) | exact hOc.cellL 1 rfl rfl | exact hOc.cellI 2 rfl _ (by omega) (by omega) | exact hOc.cellL 2 rfl rfl | exact hOc.cellI 3 rfl _ (by omega) (by omega) | exact hOc.cellL 3 rfl rfl | exact hOc.cellI 4 rfl _ (by omega) (by omega) | exact hOc.cellL 4 rfl rfl | exact hOc.cellI 5 rfl _ (by omega) (by omega) | exact hOc.cellL 5 rfl rfl)) ?_
       refine rq_v rfl rfl rfl (fun _ => ov_gtr rfl rfl rfl) ?_
       refine rq_nil (fun n15 => ?_)
       have hO17 := hOc.drewN n15
       generalize World.drewN w12 n15 = w16 at hO17 ⊢
       first | refine run_cond_dec rfl (fun h5 => ?_) (fun h5 => ?_) | refine run_cond rfl (fun h5 => ?_) (fun h5 => ?_)
       ·have h5' : f.q (l k) < cnk l (k + 1) (l k) := h5
        refine run_seq <| run_region <| rl_v rfl rfl rfl (ov_assign rfl rfl) <| rl_nil <| run_ret Tryz.func53 (res1 Tryz.results53 rfl) ?_
        exact ⟨⟨false, rfl, ⟨fun h => Bool.noConfusion h, fun h => by have r1 := h.2.cnt (l k) (by omega) (by omega); have r2 := cnk_le (f := f) (l := l) (k := k + 1) (b := l k) (by omega) (by omega); omega⟩⟩, hO17.tail.below⟩
       ·have h5' : ¬ f.q (l k) < cnk l (k + 1) (l k) := h5
        refine run_skip <| run_inBlock <| run_region <| rl_v rfl rfl rfl (ov_add rfl rfl rfl (by omega)) ?_
        refine rl_v rfl rfl rfl (ov_move rfl rfl) <| rl_nil ?_
        refine Run.use (ih5 _ _ ?_ ?_) (And.intro (by rfl) (And.intro rfl (And.intro rfl (And.intro rfl (And.intro rfl trivial)))))
        ·first | omega | (dsimp only; omega)
        ·exact ⟨by omega, by omega, fun g g0 g1 => by by_cases e : g = k; (rw [e]; exact .inr ⟨⟨by omega, by omega⟩, hk⟩); (exact hat g g0 (by omega)), fun b b0 b1 => by by_cases e : b = l k; (rw [e]; omega); (rw [cnk_succ l hk0, if_neg (fun h => e h.symm)]; have := hcn b b0 b1; omega), hO17⟩
  ·obtain rfl : k = f.n := by omega
   refine run_exit rfl <| run_seq <| run_region <| rl_v rfl rfl rfl (ov_assign rfl rfl) <| rl_nil <| run_ret Tryz.func53 (res1 Tryz.results53 rfl) ?_
   exact ⟨⟨true, rfl, ⟨fun _ => ⟨rfl, hat, hcn⟩, fun _ => rfl⟩⟩, hO.tail.below⟩
end Go.Proofs.YtlldeifbfpmbaaaGreat
