import Derived.Test.YtlldeifbfpmbaaaGreatFeB
set_option maxRecDepth 100000
namespace Go.Proofs.YtlldeifbfpmbaaaGreat
open Go.RowKit Go.Proofs Go.MapKept
set_option maxHeartbeats 2000000 in
theorem refPossible_any (ga ba qa la : Option Addr) (gc bc qc ln lc : Nat) (f : Fair) (l : Int → Int) (w : World) (hV : Valid5 f f.m) (hF : FAg w.heap.size w ga ba qa f f.m) (hln : ln ≤ 1000000) (hl : IAt w.heap.size w la ln (fun i => iv (l i))) :
  Calls Tryz.prog 44 #[.agg #[.slice ga f.n gc, .slice ba f.m bc, .slice qa f.m qc], .slice la ln lc] w fun e w' => (∃ b, e = .returned (.bool b) ∧ (b = true ↔ ln = f.n ∧ f.Poss l)) ∧ Below w.heap.size w w' := by
 have hs := hV.sm
 have hlg := hV.lg
 have hn := hs.n
 have hm := hs.m
 obtain ⟨qb, qo, hqa, hqrow⟩ := hF.q.open
 obtain ⟨lb, lo, hla, hlrow⟩ := hl.open
 refine calls_of_run (F := [(0, _), (1, _)]) Tryz.func44 rfl Tryz.ntmps44 rfl rfl ?_
 have hO0 := Own.init w
 refine run_seq <| run_region <| rl_ow rfl (ow_box _ rfl rfl rfl rfl rfl hO0) ?_
 rintro _ w1 ⟨b2, rfl, hO2, hs3⟩
 refine rl_v rfl rfl rfl (ov_assign rfl rfl) <| rl_nil <| run_seq <| run_seq <| run_region <| rl_v rfl rfl rfl (ov_move rfl rfl) <| rl_v rfl rfl rfl (ov_len rfl Tryz.underlying23 rfl) <| rl_v rfl rfl rfl (ov_fieldS rfl Tryz.underlying25 rfl (fo := 0) rfl (by kernel_rfl) rfl) ?_
 refine rl_v rfl rfl rfl (ov_load rfl Tryz.underlying22 rfl rfl (by exact hO2.cellL 0 rfl (off := 0) rfl)) ?_
 refine rl_v rfl rfl rfl (ov_len rfl Tryz.underlying22 rfl) <| rl_v rfl rfl rfl (ov_neq rfl rfl rfl) <| rl_nil ?_
 first | refine run_cond_dec rfl (fun h1 => ?_) (fun h1 => ?_) | refine run_cond rfl (fun h1 => ?_) (fun h1 => ?_)
 ·refine run_seq <| run_region <| rl_v rfl rfl rfl (ov_assign rfl rfl) <| rl_nil <| run_ret Tryz.func44 (res1 Tryz.results44 rfl) ?_
  exact ⟨⟨false, rfl, ⟨fun h => Bool.noConfusion h, fun h => absurd h.1 (by omega)⟩⟩, hO2.tail.below⟩
 ·obtain rfl : ln = f.n := by omega
  refine run_skip <| run_seq <| run_seq <| run_region <| rl_v rfl rfl rfl (ov_assign rfl rfl) <| rl_nil <| run_block <| Run.keep [1, 2, 5] (F' := [(1, _), (2, _), (5, _)]) rfl <| run_loop1 (fun (g : Int) => [(5, .int .i64 g)]) [1, 2] (fun (g : Int) (w4 : World) => 0 ≤ g ∧ g ≤ f.n ∧ (∀ i : Int, 0 ≤ i → i < g → l i = -1 ∨ (0 ≤ l i ∧ l i < f.m) ∧ f.know i (l i)) ∧ Own w.heap.size w w4 [some (lch b2 25 [.slice ga f.n gc, .slice ba f.m bc, .slice qa f.m qc])]) (fun (g : Int) => ((f.n : Int) - g).toNat) (0) ?_ (And.intro (by exact slot_int rfl (by first | omega)) (And.intro rfl (And.intro rfl trivial))) ?_
  ·exact ⟨by omega, by omega, fun i i0 i1 => by omega, hO2⟩
  intro g w4 hIw4 ih5
  obtain ⟨hg0, hg1, hall, hO⟩ := hIw4
  show Run _ _ _ _ [(5, _), (1, _), (2, _)] _ _
  refine run_seq <| run_seq <| run_region <| rl_v rfl rfl rfl (ov_move rfl rfl) <| rl_v rfl rfl rfl (ov_move rfl rfl) <| rl_v rfl rfl rfl (ov_len rfl Tryz.underlying23 rfl) <| rl_v rfl rfl rfl (ov_lss rfl rfl rfl) <| rl_nil ?_
  first | refine run_cond_dec rfl (fun h2 => ?_) (fun h2 => ?_) | refine run_cond rfl (fun h2 => ?_) (fun h2 => ?_)
  ·refine run_skip <| run_seq <| run_block <| run_seq <| run_class (Cl5 w.heap.size w [some (lch b2 25 [.slice ga f.n gc, .slice ba f.m bc, .slice qa f.m qc])]) (⟨hO.drew⟩) mixed (by kernel_rfl) ?_
   refine rk_v rfl rfl rfl (fun wq hQ => ov_move rfl rfl) ?_
   refine rk_v rfl rfl rfl (fun wq hQ => ov_move rfl rfl) ?_
   refine rk_v rfl rfl rfl (fun wq hQ => ov_index1 rfl Tryz.underlying23 (by kernel_rfl) rfl rfl ⟨by omega, by omega⟩ (by exact hla (by omega))) ?_
   refine rk_v rfl rfl rfl (fun wq hQ => ov_load rfl Tryz.underlying3 rfl rfl (by exact hlrow _ (hQ.own).below _ (by omega) (by omega))) ?_
   refine rk_v rfl rfl rfl (fun wq hQ => ov_neq rfl rfl rfl) ?_
   refine rk_v rfl rfl rfl (fun wq hQ => ov_move rfl rfl) ?_
   first | refine rk_split_dec 24 rfl (fun q1 => ?_) (fun q1 => ?_) | refine rk_split 24 rfl (fun q1 => ?_) (fun q1 => ?_)
   ·refine rk_gv rfl rfl rfl rfl rfl (fun wq hQ => ov_move rfl rfl) ?_
    refine rk_gv rfl rfl rfl rfl rfl (fun wq hQ => ov_move rfl rfl) ?_
    refine rk_gv rfl rfl rfl rfl rfl (fun wq hQ => ov_index1 rfl Tryz.underlying23 (by kernel_rfl) rfl rfl ⟨by omega, by omega⟩ (by exact hla (by omega))) ?_
    refine rk_gv rfl rfl rfl rfl rfl (fun wq hQ => ov_load rfl Tryz.underlying3 rfl rfl (by exact hlrow _ (hQ.own).below _ (by omega) (by omega))) ?_
    refine rk_gv rfl rfl rfl rfl rfl (fun wq hQ => ov_lss rfl rfl rfl) ?_
    refine rk_gv rfl rfl rfl rfl rfl (fun wq hQ => ov_move rfl rfl) ?_
    first | refine rk_split_dec 30 rfl (fun q2 => ?_) (fun q2 => ?_) | refine rk_split 30 rfl (fun q2 => ?_) (fun q2 => ?_)
    ·refine rk_gskip rfl rfl rfl rfl rfl rfl <| rk_gskip rfl rfl rfl rfl rfl rfl <| rk_gskip rfl rfl rfl rfl rfl rfl <| rk_gskip rfl rfl rfl rfl rfl rfl <| rk_gskip rfl rfl rfl rfl rfl rfl <| rk_gskip rfl rfl rfl rfl rfl rfl <| rk_gskip rfl rfl rfl rfl rfl rfl <| rk_gskip rfl rfl rfl rfl rfl rfl <| rk_gv rfl rfl rfl rfl rfl (fun wq hQ => ov_pick_t rfl rfl rfl) ?_
     refine rk_gv rfl rfl rfl rfl rfl (fun wq hQ => ov_move rfl rfl) ?_
     refine rk_gskip rfl rfl rfl rfl rfl rfl <| rk_gskip rfl rfl rfl rfl rfl rfl <| rk_gskip rfl rfl rfl rfl rfl rfl <| rk_gskip rfl rfl rfl rfl rfl rfl <| rk_gskip rfl rfl rfl rfl rfl rfl <| rk_gskip rfl rfl rfl rfl rfl rfl <| rk_gskip rfl rfl rfl rfl rfl rfl <| rk_gskip rfl rfl rfl rfl rfl rfl <| rk_gv rfl rfl rfl rfl rfl (fun wq hQ => ov_pick_t rfl rfl rfl) ?_
     refine rk_v rfl rfl rfl (fun wq hQ => ov_pick_t rfl rfl rfl) ?_
     refine rk_nil (fun w8 hQ => ?_)
     refine run_cond_t rfl <| run_seq <| run_region <| rl_v rfl rfl rfl (ov_assign rfl rfl) <| rl_nil <| run_ret Tryz.func44 (res1 Tryz.results44 rfl) ?_
     exact ⟨⟨false, rfl, ⟨fun h => Bool.noConfusion h, fun h => by have := h.2.at_ g hg0 h2; omega⟩⟩, (hQ.own).tail.below⟩
    ·refine rk_gv rfl rfl rfl rfl rfl (fun wq hQ => ov_move rfl rfl) ?_
     refine rk_gv rfl rfl rfl rfl rfl (fun wq hQ => ov_move rfl rfl) ?_
     refine rk_gv rfl rfl rfl rfl rfl (fun wq hQ => ov_index1 rfl Tryz.underlying23 (by kernel_rfl) rfl rfl ⟨by omega, by omega⟩ (by exact hla (by omega))) ?_
     refine rk_gv rfl rfl rfl rfl rfl (fun wq hQ => ov_load rfl Tryz.underlying3 rfl rfl (by exact hlrow _ (hQ.own).below _ (by omega) (by omega))) ?_
     refine rk_gv rfl rfl rfl rfl rfl (fun wq hQ => ov_fieldS rfl Tryz.underlying25 rfl (fo := 1) rfl (by kernel_rfl) rfl) ?_
     refine rk_gv rfl rfl rfl rfl rfl (fun wq hQ => ov_load rfl Tryz.underlying22 rfl rfl (by exact (hQ.own).cellL 0 rfl (off := 1) rfl)) ?_
     refine rk_gv rfl rfl rfl rfl rfl (fun wq hQ => ov_len rfl Tryz.underlying22 rfl) ?_
     refine rk_gv rfl rfl rfl rfl rfl (fun wq hQ => ov_geq rfl rfl rfl) ?_
     refine rk_gv rfl rfl rfl rfl rfl (fun wq hQ => ov_pick_f rfl rfl rfl) ?_
     refine rk_gv rfl rfl rfl rfl rfl (fun wq hQ => ov_move rfl rfl) ?_
     first | refine rk_split_dec 40 rfl (fun q3 => ?_) (fun q3 => ?_) | refine rk_split 40 rfl (fun q3 => ?_) (fun q3 => ?_)
     ·refine rk_gskip rfl rfl rfl rfl rfl rfl <| rk_gskip rfl rfl rfl rfl rfl rfl <| rk_gskip rfl rfl rfl rfl rfl rfl <| rk_gskip rfl rfl rfl rfl rfl rfl <| rk_gskip rfl rfl rfl rfl rfl rfl <| rk_gskip rfl rfl rfl rfl rfl rfl <| rk_gskip rfl rfl rfl rfl rfl rfl <| rk_gskip rfl rfl rfl rfl rfl rfl <| rk_gv rfl rfl rfl rfl rfl (fun wq hQ => ov_pick_t rfl rfl rfl) ?_
      refine rk_v rfl rfl rfl (fun wq hQ => ov_pick_t rfl rfl rfl) ?_
      refine rk_nil (fun w10 hQ => ?_)
      refine run_cond_t rfl <| run_seq <| run_region <| rl_v rfl rfl rfl (ov_assign rfl rfl) <| rl_nil <| run_ret Tryz.func44 (res1 Tryz.results44 rfl) ?_
      exact ⟨⟨false, rfl, ⟨fun h => Bool.noConfusion h, fun h => by have := h.2.at_ g hg0 h2; omega⟩⟩, (hQ.own).tail.below⟩
     ·refine rk_gv rfl rfl rfl rfl rfl (fun wq hQ => ov_loadW rfl Tryz.underlying25 rfl (by kernel_rfl) rfl (hQ.own) 0 rfl) ?_
      refine rk_gv rfl rfl rfl rfl rfl (fun wq hQ => ov_move rfl rfl) ?_
      refine rk_gv rfl rfl rfl rfl rfl (fun wq hQ => ov_move rfl rfl) ?_
      refine rk_gv rfl rfl rfl rfl rfl (fun wq hQ => ov_move rfl rfl) ?_
      refine rk_gv rfl rfl rfl rfl rfl (fun wq hQ => ov_index1 rfl Tryz.underlying23 (by kernel_rfl) rfl rfl ⟨by omega, by omega⟩ (by exact hla (by omega))) ?_
      refine rk_gv rfl rfl rfl rfl rfl (fun wq hQ => ov_load rfl Tryz.underlying3 rfl rfl (by exact hlrow _ (hQ.own).below _ (by omega) (by omega))) ?_
      refine rk_gcall callable_83 rfl rfl rfl rfl rfl rfl rfl rfl (fun wq hQ => (mutual5_any ga ba qa gc bc qc f.m f g (l g) _ hlg ((hQ.own).fag hF) hg0 h2 (by omega) (by omega)).mono fun _ _ h => ⟨h.1, ⟨(hQ.own).past h.2⟩⟩) ?_
      refine rk_gv rfl rfl rfl rfl rfl (fun wq hQ => ov_not rfl rfl) ?_
      refine rk_gv rfl rfl rfl rfl rfl (fun wq hQ => ov_pick_f rfl rfl rfl) ?_
      refine rk_v rfl rfl rfl (fun wq hQ => ov_pick_t rfl rfl rfl) ?_
      refine rk_nil (fun w14 hQ => ?_)
      first | refine run_cond_dec rfl (fun h4 => ?_) (fun h4 => ?_) | refine run_cond rfl (fun h4 => ?_) (fun h4 => ?_)
      ·have hnk : ¬ f.know g (l g) := by simpa using h4
       refine run_seq <| run_region <| rl_v rfl rfl rfl (ov_assign rfl rfl) <| rl_nil <| run_ret Tryz.func44 (res1 Tryz.results44 rfl) ?_
       exact ⟨⟨false, rfl, ⟨fun h => Bool.noConfusion h, fun h => by rcases h.2.at_ g hg0 h2 with e | e; (exact absurd e q1); (exact absurd e.2 hnk)⟩⟩, (hQ.own).tail.below⟩
      ·have hk : f.know g (l g) := by simpa using h4
       refine run_skip <| run_inBlock <| run_region <| rl_v rfl rfl rfl (ov_move rfl rfl) <| rl_v rfl rfl rfl (ov_add rfl rfl rfl (by omega)) ?_
       refine rl_v rfl rfl rfl (ov_assign rfl rfl) <| rl_nil ?_
       refine Run.use (ih5 _ _ ?_ ?_) (And.intro (by rfl) (And.intro rfl (And.intro rfl trivial)))
       ·first | omega | (dsimp only; omega)
       ·exact ⟨by omega, by omega, fun i i0 i1 => by by_cases e : i = g; (rw [e]; exact .inr ⟨⟨by omega, by omega⟩, hk⟩); (exact hall i i0 (by omega)), (hQ.own)⟩
   ·refine rk_gskip rfl rfl rfl rfl rfl rfl <| rk_gskip rfl rfl rfl rfl rfl rfl <| rk_gskip rfl rfl rfl rfl rfl rfl <| rk_gskip rfl rfl rfl rfl rfl rfl <| rk_gskip rfl rfl rfl rfl rfl rfl <| rk_gskip rfl rfl rfl rfl rfl rfl <| rk_gundef rfl rfl rfl rfl rfl <| rk_gundef rfl rfl rfl rfl rfl <| rk_gundef rfl rfl rfl rfl rfl <| rk_gundef rfl rfl rfl rfl rfl <| rk_gundef rfl rfl rfl rfl rfl <| rk_gundef rfl rfl rfl rfl rfl <| rk_gundef rfl rfl rfl rfl rfl <| rk_gundef rfl rfl rfl rfl rfl <| rk_gskip rfl rfl rfl rfl rfl rfl <| rk_gskip rfl rfl rfl rfl rfl rfl <| rk_gundef rfl rfl rfl rfl rfl <| rk_gundef rfl rfl rfl rfl rfl <| rk_gundef rfl rfl rfl rfl rfl <| rk_gundef rfl rfl rfl rfl rfl <| rk_gundef rfl rfl rfl rfl rfl <| rk_gundef rfl rfl rfl rfl rfl <| rk_gundef rfl rfl rfl rfl rfl <| rk_gundef rfl rfl rfl rfl rfl <| rk_gskip rfl rfl rfl rfl rfl rfl <| rk_v rfl rfl rfl (fun wq hQ => ov_pick_f rfl rfl rfl) ?_
    refine rk_nil (fun w15 hQ => ?_)
    refine run_cond_f rfl <| run_skip <| run_inBlock <| run_region <| rl_v rfl rfl rfl (ov_move rfl rfl) <| rl_v rfl rfl rfl (ov_add rfl rfl rfl (by omega)) ?_
    refine rl_v rfl rfl rfl (ov_assign rfl rfl) <| rl_nil ?_
    refine Run.use (ih5 _ _ ?_ ?_) (And.intro (by rfl) (And.intro rfl (And.intro rfl trivial)))
    ·first | omega | (dsimp only; omega)
    ·exact ⟨by omega, by omega, fun i i0 i1 => by by_cases e : i = g; (rw [e]; exact .inl (by omega)); (exact hall i i0 (by omega)), (hQ.own)⟩
  ·refine run_exit rfl <| run_seq <| run_seq <| run_region <| rl_v rfl rfl rfl (ov_assign rfl rfl) <| rl_nil <| run_block <| Run.keep [1, 2, 6] (F' := [(1, _), (2, _), (6, _)]) rfl <| run_loop1 (fun (b : Int) => [(6, .int .i64 b)]) [1, 2] (fun (b : Int) (w16 : World) => 0 ≤ b ∧ b ≤ f.m ∧ (∀ i : Int, 0 ≤ i → i < b → f.cnt l i ≤ f.q i) ∧ Own w.heap.size w w16 [some (lch b2 25 [.slice ga f.n gc, .slice ba f.m bc, .slice qa f.m qc])]) (fun (b : Int) => ((f.m : Int) - b).toNat) (0) ?_ (And.intro (by exact slot_int rfl (by first | omega)) (And.intro rfl (And.intro rfl trivial))) ?_
   ·exact ⟨by omega, by omega, fun i i0 i1 => by omega, hO⟩
   intro b w16 hIw16 ih17
   obtain ⟨hb0, hb1, hcnt, hO⟩ := hIw16
   show Run _ _ _ _ [(6, _), (1, _), (2, _)] _ _
   refine run_seq <| run_seq <| run_region <| rl_v rfl rfl rfl (ov_move rfl rfl) <| rl_v rfl rfl rfl (ov_fieldS rfl Tryz.underlying25 rfl (fo := 1) rfl (by kernel_rfl) rfl) ?_
   refine rl_v rfl rfl rfl (ov_load rfl Tryz.underlying22 rfl rfl (by exact hO.cellL 0 rfl (off := 1) rfl)) ?_
   refine rl_v rfl rfl rfl (ov_len rfl Tryz.underlying22 rfl) <| rl_v rfl rfl rfl (ov_lss rfl rfl rfl) <| rl_nil ?_
   first | refine run_cond_dec rfl (fun h5 => ?_) (fun h5 => ?_) | refine run_cond rfl (fun h5 => ?_) (fun h5 => ?_)
   ·refine run_skip <| run_seq <| run_block <| run_seq <| run_class (Cl5 w.heap.size w [some (lch b2 25 [.slice ga f.n gc, .slice ba f.m bc, .slice qa f.m qc])]) (⟨hO.drew⟩) mixed (by kernel_rfl) ?_
    refine rk_v rfl rfl rfl (fun wq hQ => ov_move rfl rfl) ?_
    refine rk_v rfl rfl rfl (fun wq hQ => ov_move rfl rfl) ?_
    refine rk_call callable_84 rfl rfl rfl rfl rfl rfl (fun wq hQ => (count5_any la f.n lc l b _ (by omega) ((hQ.own).iatF hl)).mono fun _ _ h => ⟨h.1, ⟨(hQ.own).past h.2⟩⟩) ?_
    refine rk_v rfl rfl rfl (fun wq hQ => ov_fieldS rfl Tryz.underlying25 rfl (fo := 2) rfl (by kernel_rfl) rfl) ?_
    refine rk_v rfl rfl rfl (fun wq hQ => ov_load rfl Tryz.underlying23 rfl rfl (by exact (hQ.own).cellL 0 rfl (off := 2) rfl)) ?_
    refine rk_v rfl rfl rfl (fun wq hQ => ov_move rfl rfl) ?_
    refine rk_v rfl rfl rfl (fun wq hQ => ov_index1 rfl Tryz.underlying23 (by kernel_rfl) rfl rfl ⟨by omega, by omega⟩ (by exact hqa (by omega))) ?_
    refine rk_v rfl rfl rfl (fun wq hQ => ov_load rfl Tryz.underlying3 rfl rfl (by exact hqrow _ (hQ.own).below _ (by omega) (by omega))) ?_
    refine rk_v rfl rfl rfl (fun wq hQ => ov_gtr rfl rfl rfl) ?_
    refine rk_nil (fun w21 hQ => ?_)
    first | refine run_cond_dec rfl (fun h6 => ?_) (fun h6 => ?_) | refine run_cond rfl (fun h6 => ?_) (fun h6 => ?_)
    ·have h6' : f.q b < f.cnt l b := h6
     refine run_seq <| run_region <| rl_v rfl rfl rfl (ov_assign rfl rfl) <| rl_nil <| run_ret Tryz.func44 (res1 Tryz.results44 rfl) ?_
     exact ⟨⟨false, rfl, ⟨fun h => Bool.noConfusion h, fun h => by have := h.2.cnt b hb0 h5; omega⟩⟩, (hQ.own).tail.below⟩
    ·have h6' : ¬ f.q b < f.cnt l b := h6
     refine run_skip <| run_inBlock <| run_region <| rl_v rfl rfl rfl (ov_move rfl rfl) <| rl_v rfl rfl rfl (ov_add rfl rfl rfl (by omega)) ?_
     refine rl_v rfl rfl rfl (ov_assign rfl rfl) <| rl_nil ?_
     refine Run.use (ih17 _ _ ?_ ?_) (And.intro (by rfl) (And.intro rfl (And.intro rfl trivial)))
     ·first | omega | (dsimp only; omega)
     ·exact ⟨by omega, by omega, fun i i0 i1 => by by_cases e : i = b; (rw [e]; omega); (exact hcnt i i0 (by omega)), (hQ.own)⟩
   ·refine run_exit rfl <| run_seq <| run_region <| rl_v rfl rfl rfl (ov_assign rfl rfl) <| rl_nil <| run_ret Tryz.func44 (res1 Tryz.results44 rfl) ?_
    exact ⟨⟨true, rfl, ⟨fun _ => ⟨rfl, fun g g0 g1 => hall g g0 (by omega), fun b b0 b1 => hcnt b b0 (by omega)⟩, fun _ => rfl⟩⟩, hO.tail.below⟩
end Go.Proofs.YtlldeifbfpmbaaaGreat
