import Derived.Test.YtlldeifbfpmbaaaGreatFeC
set_option maxRecDepth 100000
namespace Go.Proofs.YtlldeifbfpmbaaaGreat
open Go.RowKit Go.Proofs Go.MapKept
set_option maxHeartbeats 2000000 in
theorem refBlocks_any (ga ba qa la : Option Addr) (gc bc qc lc : Nat) (f : Fair) (l : Int → Int) (g b : Int) (w : World) (hV : Valid5 f f.m) (hF : FAg w.heap.size w ga ba qa f f.m) (hl : IAt w.heap.size w la f.n (fun i => iv (l i))) (g0 : 0 ≤ g) (g1 : g < f.n) (b0 : 0 ≤ b) (b1 : b < f.m) :
  Calls Tryz.prog 85 #[.agg #[.slice ga f.n gc, .slice ba f.m bc, .slice qa f.m qc], .slice la f.n lc, iv g, iv b] w fun e w' => (∃ r, e = .returned (.bool r) ∧ (r = true ↔ f.Blk l g b)) ∧ Below w.heap.size w w' := by
 have hs := hV.sm
 have hlg := hV.lg
 have hn := hs.n
 have hm := hs.m
 obtain ⟨A, C, RB, RO, gb, go, hga, hrow, hra, hel, hcan⟩ := hF.g.open
 obtain ⟨A', C', RB', RO', gb', go', hga', hrow', hra', hel', hcan'⟩ := hF.b.open
 obtain ⟨qb, qo, hqa, hqrow⟩ := hF.q.open
 obtain ⟨lb, lo, hla, hlrow⟩ := hl.open
 refine calls_of_run (F := [(0, _), (1, _), (2, _), (3, _)]) Tryz.func85 rfl Tryz.ntmps85 rfl rfl ?_
 have hO0 := Own.init w
 refine run_seq <| run_region <| rl_ow rfl (ow_box _ rfl rfl rfl rfl rfl hO0) ?_
 rintro _ w1 ⟨b4, rfl, hO2, hs3⟩
 refine rl_v rfl rfl rfl (ov_assign rfl rfl) <| rl_nil <| run_seq <| run_seq <| run_region <| rl_v rfl rfl rfl (ov_move rfl rfl) <| rl_v rfl rfl rfl (ov_move rfl rfl) <| rl_v rfl rfl rfl (ov_index1 rfl Tryz.underlying23 (by kernel_rfl) rfl rfl ⟨by omega, by omega⟩ (by exact hla (by omega))) ?_
 refine rl_v rfl rfl rfl (ov_load rfl Tryz.underlying3 rfl rfl (by exact hlrow _ hO2.below _ (by omega) (by omega))) ?_
 refine rl_v rfl rfl rfl (ov_move rfl rfl) <| rl_v rfl rfl rfl (ov_eql rfl rfl rfl) <| rl_v rfl rfl rfl (ov_move rfl rfl) ?_
 first | refine rl_split_dec 16 rfl (fun q1 => ?_) (fun q1 => ?_) | refine rl_split 16 rfl (fun q1 => ?_) (fun q1 => ?_)
 ·refine rl_gskip rfl rfl rfl rfl rfl rfl <| rl_gskip rfl rfl rfl rfl rfl rfl <| rl_gskip rfl rfl rfl rfl rfl rfl <| rl_gskip rfl rfl rfl rfl rfl rfl <| rl_gskip rfl rfl rfl rfl rfl rfl <| rl_v rfl rfl rfl (ov_pick_t rfl rfl rfl) <| rl_nil <| run_cond_t rfl <| run_seq <| run_region <| rl_v rfl rfl rfl (ov_assign rfl rfl) <| rl_nil <| run_ret Tryz.func85 (res1 Tryz.results85 rfl) ?_
  exact ⟨⟨false, rfl, ⟨fun h => Bool.noConfusion h, fun h => absurd q1 h.1⟩⟩, hO2.tail.below⟩
 ·refine rl_gv rfl rfl rfl rfl rfl (ov_loadW rfl Tryz.underlying25 rfl (by kernel_rfl) rfl hO2 0 rfl) ?_
  refine rl_gv rfl rfl rfl rfl rfl (ov_move rfl rfl) <| rl_gv rfl rfl rfl rfl rfl (ov_move rfl rfl) ?_
  refine rl_gcall callable_83 rfl rfl rfl rfl rfl rfl rfl rfl (mutual5_any ga ba qa gc bc qc f.m f g b _ hlg (hO2.fag hF) g0 g1 b0 b1) (fun e5 w6 hp7 => ?_)
  obtain ⟨rfl, hb1⟩ := hp7
  refine ⟨_, rfl, ?_⟩
  have hO8 := hO2.past hb1
  refine rl_gv rfl rfl rfl rfl rfl (ov_not rfl rfl) <| rl_v rfl rfl rfl (ov_pick_f rfl rfl rfl) <| rl_nil ?_
  first | refine run_cond_dec rfl (fun h2 => ?_) (fun h2 => ?_) | refine run_cond rfl (fun h2 => ?_) (fun h2 => ?_)
  ·have hnk : ¬ f.know g b := by simpa using h2
   refine run_seq <| run_region <| rl_v rfl rfl rfl (ov_assign rfl rfl) <| rl_nil <| run_ret Tryz.func85 (res1 Tryz.results85 rfl) ?_
   exact ⟨⟨false, rfl, ⟨fun h => Bool.noConfusion h, fun h => absurd h.2.1 hnk⟩⟩, hO8.tail.below⟩
  ·have hk : f.know g b := by simpa using h2
   refine run_skip <| run_seq <| run_seq <| run_class (Cl5 w.heap.size w [some (lch b4 25 [.slice ga f.n gc, .slice ba f.m bc, .slice qa f.m qc])]) (⟨hO8.drew⟩) mixed (by kernel_rfl) ?_
   refine rk_v rfl rfl rfl (fun wq hQ => ov_move rfl rfl) ?_
   refine rk_v rfl rfl rfl (fun wq hQ => ov_move rfl rfl) ?_
   refine rk_v rfl rfl rfl (fun wq hQ => ov_index1 rfl Tryz.underlying23 (by kernel_rfl) rfl rfl ⟨by omega, by omega⟩ (by exact hla (by omega))) ?_
   refine rk_v rfl rfl rfl (fun wq hQ => ov_load rfl Tryz.underlying3 rfl rfl (by exact hlrow _ (hQ.own).below _ (by omega) (by omega))) ?_
   refine rk_v rfl rfl rfl (fun wq hQ => ov_geq rfl rfl rfl) ?_
   refine rk_v rfl rfl rfl (fun wq hQ => ov_move rfl rfl) ?_
   first | refine rk_split_dec 28 rfl (fun q3 => ?_) (fun q3 => ?_) | refine rk_split 28 rfl (fun q3 => ?_) (fun q3 => ?_)
   ·refine rk_gv rfl rfl rfl rfl rfl (fun wq hQ => ov_fieldS rfl Tryz.underlying25 rfl (fo := 0) rfl (by kernel_rfl) rfl) ?_
    refine rk_gv rfl rfl rfl rfl rfl (fun wq hQ => ov_load rfl Tryz.underlying22 rfl rfl (by exact (hQ.own).cellL 0 rfl (off := 0) rfl)) ?_
    refine rk_gv rfl rfl rfl rfl rfl (fun wq hQ => ov_move rfl rfl) ?_
    refine rk_gv rfl rfl rfl rfl rfl (fun wq hQ => ov_index1 rfl Tryz.underlying22 (by kernel_rfl) rfl rfl ⟨by omega, by omega⟩ (by exact hga (by omega))) ?_
    refine rk_gv rfl rfl rfl rfl rfl (fun wq hQ => ov_load rfl Tryz.underlying23 rfl rfl (by exact hrow _ (hQ.own).below _ (by omega) (by omega))) ?_
    refine rk_gv rfl rfl rfl rfl rfl (fun wq hQ => ov_move rfl rfl) ?_
    refine rk_gv rfl rfl rfl rfl rfl (fun wq hQ => ov_move rfl rfl) ?_
    refine rk_gv rfl rfl rfl rfl rfl (fun wq hQ => ov_index1 rfl Tryz.underlying23 (by kernel_rfl) rfl rfl ⟨by omega, by omega⟩ (by exact hla (by omega))) ?_
    refine rk_gv rfl rfl rfl rfl rfl (fun wq hQ => ov_load rfl Tryz.underlying3 rfl rfl (by exact hlrow _ (hQ.own).below _ (by omega) (by omega))) ?_
    refine rk_gcall callable_14 rfl rfl rfl rfl rfl rfl rfl rfl (fun wq hQ => (rank5_any (A g) (f.gl g) (C g) (f.ge g) (l g) _ (hlg.gl g g0 g1) ((hQ.own).iatF (hcan g g0 g1))).mono fun _ _ h => ⟨h.1, ⟨(hQ.own).past h.2⟩⟩) ?_
    refine rk_gv rfl rfl rfl rfl rfl (fun wq hQ => ov_fieldS rfl Tryz.underlying25 rfl (fo := 0) rfl (by kernel_rfl) rfl) ?_
    refine rk_gv rfl rfl rfl rfl rfl (fun wq hQ => ov_load rfl Tryz.underlying22 rfl rfl (by exact (hQ.own).cellL 0 rfl (off := 0) rfl)) ?_
    refine rk_gv rfl rfl rfl rfl rfl (fun wq hQ => ov_move rfl rfl) ?_
    refine rk_gv rfl rfl rfl rfl rfl (fun wq hQ => ov_index1 rfl Tryz.underlying22 (by kernel_rfl) rfl rfl ⟨by omega, by omega⟩ (by exact hga (by omega))) ?_
    refine rk_gv rfl rfl rfl rfl rfl (fun wq hQ => ov_load rfl Tryz.underlying23 rfl rfl (by exact hrow _ (hQ.own).below _ (by omega) (by omega))) ?_
    refine rk_gv rfl rfl rfl rfl rfl (fun wq hQ => ov_move rfl rfl) ?_
    refine rk_gcall callable_14 rfl rfl rfl rfl rfl rfl rfl rfl (fun wq hQ => (rank5_any (A g) (f.gl g) (C g) (f.ge g) b _ (hlg.gl g g0 g1) ((hQ.own).iatF (hcan g g0 g1))).mono fun _ _ h => ⟨h.1, ⟨(hQ.own).past h.2⟩⟩) ?_
    refine rk_gv rfl rfl rfl rfl rfl (fun wq hQ => ov_lss rfl rfl rfl) ?_
    refine rk_v rfl rfl rfl (fun wq hQ => ov_pick_t rfl rfl rfl) ?_
    refine rk_nil (fun w16 hQ => ?_)
    first | refine run_cond_dec rfl (fun h4 => ?_) (fun h4 => ?_) | refine run_cond rfl (fun h4 => ?_) (fun h4 => ?_)
    ·refine run_seq <| run_region <| rl_v rfl rfl rfl (ov_assign rfl rfl) <| rl_nil <| run_ret Tryz.func85 (res1 Tryz.results85 rfl) ?_
     exact ⟨⟨false, rfl, ⟨fun h => Bool.noConfusion h, fun h => absurd ⟨q3, h4⟩ h.2.2.1⟩⟩, (hQ.own).tail.below⟩
    ·have h3 : ¬ (0 ≤ l g ∧ f.rg g (l g) < f.rg g b) := fun h => h4 h.2
     refine run_skip <| run_seq <| run_seq <| run_class (Cl5 w.heap.size w [some (lch b4 25 [.slice ga f.n gc, .slice ba f.m bc, .slice qa f.m qc])]) (⟨(hQ.own).drew⟩) mixed (by kernel_rfl) ?_
     refine rk_v rfl rfl rfl (fun wq hQ => ov_move rfl rfl) ?_
     refine rk_v rfl rfl rfl (fun wq hQ => ov_move rfl rfl) ?_
     refine rk_call callable_84 rfl rfl rfl rfl rfl rfl (fun wq hQ => (count5_any la f.n lc l b _ (by omega) ((hQ.own).iatF hl)).mono fun _ _ h => ⟨h.1, ⟨(hQ.own).past h.2⟩⟩) ?_
     refine rk_v rfl rfl rfl (fun wq hQ => ov_fieldS rfl Tryz.underlying25 rfl (fo := 2) rfl (by kernel_rfl) rfl) ?_
     refine rk_v rfl rfl rfl (fun wq hQ => ov_load rfl Tryz.underlying23 rfl rfl (by exact (hQ.own).cellL 0 rfl (off := 2) rfl)) ?_
     refine rk_v rfl rfl rfl (fun wq hQ => ov_move rfl rfl) ?_
     refine rk_v rfl rfl rfl (fun wq hQ => ov_index1 rfl Tryz.underlying23 (by kernel_rfl) rfl rfl ⟨by omega, by omega⟩ (by exact hqa (by omega))) ?_
     refine rk_v rfl rfl rfl (fun wq hQ => ov_load rfl Tryz.underlying3 rfl rfl (by exact hqrow _ (hQ.own).below _ (by omega) (by omega))) ?_
     refine rk_v rfl rfl rfl (fun wq hQ => ov_lss rfl rfl rfl) ?_
     refine rk_nil (fun w20 hQ => ?_)
     first | refine run_cond_dec rfl (fun h6 => ?_) (fun h6 => ?_) | refine run_cond rfl (fun h6 => ?_) (fun h6 => ?_)
     ·refine run_seq <| run_region <| rl_v rfl rfl rfl (ov_assign rfl rfl) <| rl_nil <| run_ret Tryz.func85 (res1 Tryz.results85 rfl) ?_
      exact ⟨⟨true, rfl, ⟨fun _ => ⟨q1, hk, h3, .inl h6⟩, fun _ => rfl⟩⟩, (hQ.own).tail.below⟩
     ·have h6' : ¬ f.cnt l b < f.q b := h6
      refine run_skip <| run_seq <| run_seq <| run_region <| rl_v rfl rfl rfl (ov_assign rfl rfl) <| rl_nil <| run_block <| Run.keep [1, 2, 3, 4, 9] (F' := [(1, _), (2, _), (3, _), (4, _), (9, _)]) rfl <| run_loop1 (fun (i : Int) => [(9, .int .i64 i)]) [1, 2, 3, 4] (fun (i : Int) (w21 : World) => 0 ≤ i ∧ i ≤ f.n ∧ (∀ j : Int, 0 ≤ j → j < i → l j = b → ¬ f.rb b g < f.rb b j) ∧ Own w.heap.size w w21 [some (lch b4 25 [.slice ga f.n gc, .slice ba f.m bc, .slice qa f.m qc])]) (fun (i : Int) => ((f.n : Int) - i).toNat) (0) ?_ (And.intro (by exact slot_int rfl (by first | omega)) (And.intro rfl (And.intro rfl (And.intro rfl (And.intro rfl trivial))))) ?_
      ·exact ⟨by omega, by omega, fun j j0 j1 => by omega, (hQ.own)⟩
      intro i w21 hIw21 ih22
      obtain ⟨hi0, hi1, hall, hO⟩ := hIw21
      show Run _ _ _ _ [(9, _), (1, _), (2, _), (3, _), (4, _)] _ _
      refine run_seq <| run_seq <| run_region <| rl_v rfl rfl rfl (ov_move rfl rfl) <| rl_v rfl rfl rfl (ov_move rfl rfl) <| rl_v rfl rfl rfl (ov_len rfl Tryz.underlying23 rfl) <| rl_v rfl rfl rfl (ov_lss rfl rfl rfl) <| rl_nil ?_
      first | refine run_cond_dec rfl (fun h7 => ?_) (fun h7 => ?_) | refine run_cond rfl (fun h7 => ?_) (fun h7 => ?_)
      ·refine run_skip <| run_seq <| run_block <| run_seq <| run_class (Cl5 w.heap.size w [some (lch b4 25 [.slice ga f.n gc, .slice ba f.m bc, .slice qa f.m qc])]) (⟨hO.drew⟩) mixed (by kernel_rfl) ?_
       refine rk_v rfl rfl rfl (fun wq hQ => ov_move rfl rfl) ?_
       refine rk_v rfl rfl rfl (fun wq hQ => ov_move rfl rfl) ?_
       refine rk_v rfl rfl rfl (fun wq hQ => ov_index1 rfl Tryz.underlying23 (by kernel_rfl) rfl rfl ⟨by omega, by omega⟩ (by exact hla (by omega))) ?_
       refine rk_v rfl rfl rfl (fun wq hQ => ov_load rfl Tryz.underlying3 rfl rfl (by exact hlrow _ (hQ.own).below _ (by omega) (by omega))) ?_
       refine rk_v rfl rfl rfl (fun wq hQ => ov_move rfl rfl) ?_
       refine rk_v rfl rfl rfl (fun wq hQ => ov_eql rfl rfl rfl) ?_
       refine rk_v rfl rfl rfl (fun wq hQ => ov_move rfl rfl) ?_
       first | refine rk_split_dec 69 rfl (fun q8 => ?_) (fun q8 => ?_) | refine rk_split 69 rfl (fun q8 => ?_) (fun q8 => ?_)
       ·refine rk_gv rfl rfl rfl rfl rfl (fun wq hQ => ov_fieldS rfl Tryz.underlying25 rfl (fo := 1) rfl (by kernel_rfl) rfl) ?_
        refine rk_gv rfl rfl rfl rfl rfl (fun wq hQ => ov_load rfl Tryz.underlying22 rfl rfl (by exact (hQ.own).cellL 0 rfl (off := 1) rfl)) ?_
        refine rk_gv rfl rfl rfl rfl rfl (fun wq hQ => ov_move rfl rfl) ?_
        refine rk_gv rfl rfl rfl rfl rfl (fun wq hQ => ov_index1 rfl Tryz.underlying22 (by kernel_rfl) rfl rfl ⟨by omega, by omega⟩ (by exact hga' (by omega))) ?_
        refine rk_gv rfl rfl rfl rfl rfl (fun wq hQ => ov_load rfl Tryz.underlying23 rfl rfl (by exact hrow' _ (hQ.own).below _ (by omega) (by omega))) ?_
        refine rk_gv rfl rfl rfl rfl rfl (fun wq hQ => ov_move rfl rfl) ?_
        refine rk_gcall callable_14 rfl rfl rfl rfl rfl rfl rfl rfl (fun wq hQ => (rank5_any (A' b) (f.bl b) (C' b) (f.be b) i _ (hlg.bl b b0 b1) ((hQ.own).iatF (hcan' b b0 b1))).mono fun _ _ h => ⟨h.1, ⟨(hQ.own).past h.2⟩⟩) ?_
        refine rk_gv rfl rfl rfl rfl rfl (fun wq hQ => ov_fieldS rfl Tryz.underlying25 rfl (fo := 1) rfl (by kernel_rfl) rfl) ?_
        refine rk_gv rfl rfl rfl rfl rfl (fun wq hQ => ov_load rfl Tryz.underlying22 rfl rfl (by exact (hQ.own).cellL 0 rfl (off := 1) rfl)) ?_
        refine rk_gv rfl rfl rfl rfl rfl (fun wq hQ => ov_move rfl rfl) ?_
        refine rk_gv rfl rfl rfl rfl rfl (fun wq hQ => ov_index1 rfl Tryz.underlying22 (by kernel_rfl) rfl rfl ⟨by omega, by omega⟩ (by exact hga' (by omega))) ?_
        refine rk_gv rfl rfl rfl rfl rfl (fun wq hQ => ov_load rfl Tryz.underlying23 rfl rfl (by exact hrow' _ (hQ.own).below _ (by omega) (by omega))) ?_
        refine rk_gv rfl rfl rfl rfl rfl (fun wq hQ => ov_move rfl rfl) ?_
        refine rk_gcall callable_14 rfl rfl rfl rfl rfl rfl rfl rfl (fun wq hQ => (rank5_any (A' b) (f.bl b) (C' b) (f.be b) g _ (hlg.bl b b0 b1) ((hQ.own).iatF (hcan' b b0 b1))).mono fun _ _ h => ⟨h.1, ⟨(hQ.own).past h.2⟩⟩) ?_
        refine rk_gv rfl rfl rfl rfl rfl (fun wq hQ => ov_gtr rfl rfl rfl) ?_
        refine rk_v rfl rfl rfl (fun wq hQ => ov_pick_t rfl rfl rfl) ?_
        refine rk_nil (fun w30 hQ => ?_)
        first | refine run_cond_dec rfl (fun h9 => ?_) (fun h9 => ?_) | refine run_cond rfl (fun h9 => ?_) (fun h9 => ?_)
        ·refine run_seq <| run_region <| rl_v rfl rfl rfl (ov_assign rfl rfl) <| rl_nil <| run_ret Tryz.func85 (res1 Tryz.results85 rfl) ?_
         exact ⟨⟨true, rfl, ⟨fun _ => ⟨q1, hk, h3, .inr ⟨i, ⟨hi0, h7⟩, q8, h9⟩⟩, fun _ => rfl⟩⟩, (hQ.own).tail.below⟩
        ·refine run_skip <| run_inBlock <| run_region <| rl_v rfl rfl rfl (ov_move rfl rfl) <| rl_v rfl rfl rfl (ov_add rfl rfl rfl (by omega)) ?_
         refine rl_v rfl rfl rfl (ov_assign rfl rfl) <| rl_nil ?_
         refine Run.use (ih22 _ _ ?_ ?_) (And.intro (by rfl) (And.intro rfl (And.intro rfl (And.intro rfl (And.intro rfl trivial)))))
         ·first | omega | (dsimp only; omega)
         ·exact ⟨by omega, by omega, fun j j0 j1 hj => by by_cases e : j = i; (rw [e]; exact h9); (exact hall j j0 (by omega) hj), (hQ.own)⟩
       ·refine rk_gskip rfl rfl rfl rfl rfl rfl <| rk_gskip rfl rfl rfl rfl rfl rfl <| rk_gskip rfl rfl rfl rfl rfl rfl <| rk_gskip rfl rfl rfl rfl rfl rfl <| rk_gskip rfl rfl rfl rfl rfl rfl <| rk_gskip rfl rfl rfl rfl rfl rfl <| rk_gskip rfl rfl rfl rfl rfl rfl <| rk_gskip rfl rfl rfl rfl rfl rfl <| rk_gskip rfl rfl rfl rfl rfl rfl <| rk_gskip rfl rfl rfl rfl rfl rfl <| rk_gskip rfl rfl rfl rfl rfl rfl <| rk_gskip rfl rfl rfl rfl rfl rfl <| rk_gskip rfl rfl rfl rfl rfl rfl <| rk_gskip rfl rfl rfl rfl rfl rfl <| rk_gskip rfl rfl rfl rfl rfl rfl <| rk_v rfl rfl rfl (fun wq hQ => ov_pick_f rfl rfl rfl) ?_
        refine rk_nil (fun w31 hQ => ?_)
        refine run_cond_f rfl <| run_skip <| run_inBlock <| run_region <| rl_v rfl rfl rfl (ov_move rfl rfl) <| rl_v rfl rfl rfl (ov_add rfl rfl rfl (by omega)) ?_
        refine rl_v rfl rfl rfl (ov_assign rfl rfl) <| rl_nil ?_
        refine Run.use (ih22 _ _ ?_ ?_) (And.intro (by rfl) (And.intro rfl (And.intro rfl (And.intro rfl (And.intro rfl trivial)))))
        ·first | omega | (dsimp only; omega)
        ·exact ⟨by omega, by omega, fun j j0 j1 hj => by by_cases e : j = i; (rw [e] at hj; exact absurd hj q8); (exact hall j j0 (by omega) hj), (hQ.own)⟩
      ·refine run_exit rfl <| run_seq <| run_region <| rl_v rfl rfl rfl (ov_assign rfl rfl) <| rl_nil <| run_ret Tryz.func85 (res1 Tryz.results85 rfl) ?_
       exact ⟨⟨false, rfl, ⟨fun h => Bool.noConfusion h, fun h => by rcases h.2.2.2 with e | ⟨j, ⟨j0, j1⟩, hj, e⟩; (exact absurd e h6'); (exact absurd e (hall j j0 (by omega) hj))⟩⟩, hO.tail.below⟩
   ·refine rk_gskip rfl rfl rfl rfl rfl rfl <| rk_gskip rfl rfl rfl rfl rfl rfl <| rk_gskip rfl rfl rfl rfl rfl rfl <| rk_gskip rfl rfl rfl rfl rfl rfl <| rk_gskip rfl rfl rfl rfl rfl rfl <| rk_gskip rfl rfl rfl rfl rfl rfl <| rk_gskip rfl rfl rfl rfl rfl rfl <| rk_gskip rfl rfl rfl rfl rfl rfl <| rk_gskip rfl rfl rfl rfl rfl rfl <| rk_gskip rfl rfl rfl rfl rfl rfl <| rk_gskip rfl rfl rfl rfl rfl rfl <| rk_gskip rfl rfl rfl rfl rfl rfl <| rk_gskip rfl rfl rfl rfl rfl rfl <| rk_gskip rfl rfl rfl rfl rfl rfl <| rk_gskip rfl rfl rfl rfl rfl rfl <| rk_gskip rfl rfl rfl rfl rfl rfl <| rk_gskip rfl rfl rfl rfl rfl rfl <| rk_gskip rfl rfl rfl rfl rfl rfl <| rk_v rfl rfl rfl (fun wq hQ => ov_pick_f rfl rfl rfl) ?_
    refine rk_nil (fun w32 hQ => ?_)
    refine run_cond_f rfl ?_
    have h3 : ¬ (0 ≤ l g ∧ f.rg g (l g) < f.rg g b) := fun h => q3 h.1
    refine run_skip <| run_seq <| run_seq <| run_class (Cl5 w.heap.size w [some (lch b4 25 [.slice ga f.n gc, .slice ba f.m bc, .slice qa f.m qc])]) (⟨(hQ.own).drew⟩) mixed (by kernel_rfl) ?_
    refine rk_v rfl rfl rfl (fun wq hQ => ov_move rfl rfl) ?_
    refine rk_v rfl rfl rfl (fun wq hQ => ov_move rfl rfl) ?_
    refine rk_call callable_84 rfl rfl rfl rfl rfl rfl (fun wq hQ => (count5_any la f.n lc l b _ (by omega) ((hQ.own).iatF hl)).mono fun _ _ h => ⟨h.1, ⟨(hQ.own).past h.2⟩⟩) ?_
    refine rk_v rfl rfl rfl (fun wq hQ => ov_fieldS rfl Tryz.underlying25 rfl (fo := 2) rfl (by kernel_rfl) rfl) ?_
    refine rk_v rfl rfl rfl (fun wq hQ => ov_load rfl Tryz.underlying23 rfl rfl (by exact (hQ.own).cellL 0 rfl (off := 2) rfl)) ?_
    refine rk_v rfl rfl rfl (fun wq hQ => ov_move rfl rfl) ?_
    refine rk_v rfl rfl rfl (fun wq hQ => ov_index1 rfl Tryz.underlying23 (by kernel_rfl) rfl rfl ⟨by omega, by omega⟩ (by exact hqa (by omega))) ?_
    refine rk_v rfl rfl rfl (fun wq hQ => ov_load rfl Tryz.underlying3 rfl rfl (by exact hqrow _ (hQ.own).below _ (by omega) (by omega))) ?_
    refine rk_v rfl rfl rfl (fun wq hQ => ov_lss rfl rfl rfl) ?_
    refine rk_nil (fun w36 hQ => ?_)
    first | refine run_cond_dec rfl (fun h6 => ?_) (fun h6 => ?_) | refine run_cond rfl (fun h6 => ?_) (fun h6 => ?_)
    ·refine run_seq <| run_region <| rl_v rfl rfl rfl (ov_assign rfl rfl) <| rl_nil <| run_ret Tryz.func85 (res1 Tryz.results85 rfl) ?_
     exact ⟨⟨true, rfl, ⟨fun _ => ⟨q1, hk, h3, .inl h6⟩, fun _ => rfl⟩⟩, (hQ.own).tail.below⟩
    ·have h6' : ¬ f.cnt l b < f.q b := h6
     refine run_skip <| run_seq <| run_seq <| run_region <| rl_v rfl rfl rfl (ov_assign rfl rfl) <| rl_nil <| run_block <| Run.keep [1, 2, 3, 4, 9] (F' := [(1, _), (2, _), (3, _), (4, _), (9, _)]) rfl <| run_loop1 (fun (i : Int) => [(9, .int .i64 i)]) [1, 2, 3, 4] (fun (i : Int) (w37 : World) => 0 ≤ i ∧ i ≤ f.n ∧ (∀ j : Int, 0 ≤ j → j < i → l j = b → ¬ f.rb b g < f.rb b j) ∧ Own w.heap.size w w37 [some (lch b4 25 [.slice ga f.n gc, .slice ba f.m bc, .slice qa f.m qc])]) (fun (i : Int) => ((f.n : Int) - i).toNat) (0) ?_ (And.intro (by exact slot_int rfl (by first | omega)) (And.intro rfl (And.intro rfl (And.intro rfl (And.intro rfl trivial))))) ?_
     ·exact ⟨by omega, by omega, fun j j0 j1 => by omega, (hQ.own)⟩
     intro i w37 hIw37 ih38
     obtain ⟨hi0, hi1, hall, hO⟩ := hIw37
     show Run _ _ _ _ [(9, _), (1, _), (2, _), (3, _), (4, _)] _ _
     refine run_seq <| run_seq <| run_region <| rl_v rfl rfl rfl (ov_move rfl rfl) <| rl_v rfl rfl rfl (ov_move rfl rfl) <| rl_v rfl rfl rfl (ov_len rfl Tryz.underlying23 rfl) <| rl_v rfl rfl rfl (ov_lss rfl rfl rfl) <| rl_nil ?_
     first | refine run_cond_dec rfl (fun h7 => ?_) (fun h7 => ?_) | refine run_cond rfl (fun h7 => ?_) (fun h7 => ?_)
     ·refine run_skip <| run_seq <| run_block <| run_seq <| run_class (Cl5 w.heap.size w [some (lch b4 25 [.slice ga f.n gc, .slice ba f.m bc, .slice qa f.m qc])]) (⟨hO.drew⟩) mixed (by kernel_rfl) ?_
      refine rk_v rfl rfl rfl (fun wq hQ => ov_move rfl rfl) ?_
      refine rk_v rfl rfl rfl (fun wq hQ => ov_move rfl rfl) ?_
      refine rk_v rfl rfl rfl (fun wq hQ => ov_index1 rfl Tryz.underlying23 (by kernel_rfl) rfl rfl ⟨by omega, by omega⟩ (by exact hla (by omega))) ?_
      refine rk_v rfl rfl rfl (fun wq hQ => ov_load rfl Tryz.underlying3 rfl rfl (by exact hlrow _ (hQ.own).below _ (by omega) (by omega))) ?_
      refine rk_v rfl rfl rfl (fun wq hQ => ov_move rfl rfl) ?_
      refine rk_v rfl rfl rfl (fun wq hQ => ov_eql rfl rfl rfl) ?_
      refine rk_v rfl rfl rfl (fun wq hQ => ov_move rfl rfl) ?_
      first | refine rk_split_dec 69 rfl (fun q8 => ?_) (fun q8 => ?_) | refine rk_split 69 rfl (fun q8 => ?_) (fun q8 => ?_)
      ·refine rk_gv rfl rfl rfl rfl rfl (fun wq hQ => ov_fieldS rfl Tryz.underlying25 rfl (fo := 1) rfl (by kernel_rfl) rfl) ?_
       refine rk_gv rfl rfl rfl rfl rfl (fun wq hQ => ov_load rfl Tryz.underlying22 rfl rfl (by exact (hQ.own).cellL 0 rfl (off := 1) rfl)) ?_
       refine rk_gv rfl rfl rfl rfl rfl (fun wq hQ => ov_move rfl rfl) ?_
       refine rk_gv rfl rfl rfl rfl rfl (fun wq hQ => ov_index1 rfl Tryz.underlying22 (by kernel_rfl) rfl rfl ⟨by omega, by omega⟩ (by exact hga' (by omega))) ?_
       refine rk_gv rfl rfl rfl rfl rfl (fun wq hQ => ov_load rfl Tryz.underlying23 rfl rfl (by exact hrow' _ (hQ.own).below _ (by omega) (by omega))) ?_
       refine rk_gv rfl rfl rfl rfl rfl (fun wq hQ => ov_move rfl rfl) ?_
       refine rk_gcall callable_14 rfl rfl rfl rfl rfl rfl rfl rfl (fun wq hQ => (rank5_any (A' b) (f.bl b) (C' b) (f.be b) i _ (hlg.bl b b0 b1) ((hQ.own).iatF (hcan' b b0 b1))).mono fun _ _ h => ⟨h.1, ⟨(hQ.own).past h.2⟩⟩) ?_
       refine rk_gv rfl rfl rfl rfl rfl (fun wq hQ => ov_fieldS rfl Tryz.underlying25 rfl (fo := 1) rfl (by kernel_rfl) rfl) ?_
       refine rk_gv rfl rfl rfl rfl rfl (fun wq hQ => ov_load rfl Tryz.underlying22 rfl rfl (by exact (hQ.own).cellL 0 rfl (off := 1) rfl)) ?_
       refine rk_gv rfl rfl rfl rfl rfl (fun wq hQ => ov_move rfl rfl) ?_
       refine rk_gv rfl rfl rfl rfl rfl (fun wq hQ => ov_index1 rfl Tryz.underlying22 (by kernel_rfl) rfl rfl ⟨by omega, by omega⟩ (by exact hga' (by omega))) ?_
       refine rk_gv rfl rfl rfl rfl rfl (fun wq hQ => ov_load rfl Tryz.underlying23 rfl rfl (by exact hrow' _ (hQ.own).below _ (by omega) (by omega))) ?_
       refine rk_gv rfl rfl rfl rfl rfl (fun wq hQ => ov_move rfl rfl) ?_
       refine rk_gcall callable_14 rfl rfl rfl rfl rfl rfl rfl rfl (fun wq hQ => (rank5_any (A' b) (f.bl b) (C' b) (f.be b) g _ (hlg.bl b b0 b1) ((hQ.own).iatF (hcan' b b0 b1))).mono fun _ _ h => ⟨h.1, ⟨(hQ.own).past h.2⟩⟩) ?_
       refine rk_gv rfl rfl rfl rfl rfl (fun wq hQ => ov_gtr rfl rfl rfl) ?_
       refine rk_v rfl rfl rfl (fun wq hQ => ov_pick_t rfl rfl rfl) ?_
       refine rk_nil (fun w46 hQ => ?_)
       first | refine run_cond_dec rfl (fun h9 => ?_) (fun h9 => ?_) | refine run_cond rfl (fun h9 => ?_) (fun h9 => ?_)
       ·refine run_seq <| run_region <| rl_v rfl rfl rfl (ov_assign rfl rfl) <| rl_nil <| run_ret Tryz.func85 (res1 Tryz.results85 rfl) ?_
        exact ⟨⟨true, rfl, ⟨fun _ => ⟨q1, hk, h3, .inr ⟨i, ⟨hi0, h7⟩, q8, h9⟩⟩, fun _ => rfl⟩⟩, (hQ.own).tail.below⟩
       ·refine run_skip <| run_inBlock <| run_region <| rl_v rfl rfl rfl (ov_move rfl rfl) <| rl_v rfl rfl rfl (ov_add rfl rfl rfl (by omega)) ?_
        refine rl_v rfl rfl rfl (ov_assign rfl rfl) <| rl_nil ?_
        refine Run.use (ih38 _ _ ?_ ?_) (And.intro (by rfl) (And.intro rfl (And.intro rfl (And.intro rfl (And.intro rfl trivial)))))
        ·first | omega | (dsimp only; omega)
        ·exact ⟨by omega, by omega, fun j j0 j1 hj => by by_cases e : j = i; (rw [e]; exact h9); (exact hall j j0 (by omega) hj), (hQ.own)⟩
      ·refine rk_gskip rfl rfl rfl rfl rfl rfl <| rk_gskip rfl rfl rfl rfl rfl rfl <| rk_gskip rfl rfl rfl rfl rfl rfl <| rk_gskip rfl rfl rfl rfl rfl rfl <| rk_gskip rfl rfl rfl rfl rfl rfl <| rk_gskip rfl rfl rfl rfl rfl rfl <| rk_gskip rfl rfl rfl rfl rfl rfl <| rk_gskip rfl rfl rfl rfl rfl rfl <| rk_gskip rfl rfl rfl rfl rfl rfl <| rk_gskip rfl rfl rfl rfl rfl rfl <| rk_gskip rfl rfl rfl rfl rfl rfl <| rk_gskip rfl rfl rfl rfl rfl rfl <| rk_gskip rfl rfl rfl rfl rfl rfl <| rk_gskip rfl rfl rfl rfl rfl rfl <| rk_gskip rfl rfl rfl rfl rfl rfl <| rk_v rfl rfl rfl (fun wq hQ => ov_pick_f rfl rfl rfl) ?_
       refine rk_nil (fun w47 hQ => ?_)
       refine run_cond_f rfl <| run_skip <| run_inBlock <| run_region <| rl_v rfl rfl rfl (ov_move rfl rfl) <| rl_v rfl rfl rfl (ov_add rfl rfl rfl (by omega)) ?_
       refine rl_v rfl rfl rfl (ov_assign rfl rfl) <| rl_nil ?_
       refine Run.use (ih38 _ _ ?_ ?_) (And.intro (by rfl) (And.intro rfl (And.intro rfl (And.intro rfl (And.intro rfl trivial)))))
       ·first | omega | (dsimp only; omega)
       ·exact ⟨by omega, by omega, fun j j0 j1 hj => by by_cases e : j = i; (rw [e] at hj; exact absurd hj q8); (exact hall j j0 (by omega) hj), (hQ.own)⟩
     ·refine run_exit rfl <| run_seq <| run_region <| rl_v rfl rfl rfl (ov_assign rfl rfl) <| rl_nil <| run_ret Tryz.func85 (res1 Tryz.results85 rfl) ?_
      exact ⟨⟨false, rfl, ⟨fun h => Bool.noConfusion h, fun h => by rcases h.2.2.2 with e | ⟨j, ⟨j0, j1⟩, hj, e⟩; (exact absurd e h6'); (exact absurd e (hall j j0 (by omega) hj))⟩⟩, hO.tail.below⟩
end Go.Proofs.YtlldeifbfpmbaaaGreat
