import Derived.Test.YtlldeifbfpmbaaaGreatFeB
import Derived.Test.YtlldeifbfpmbaaaGreatFlA
set_option maxRecDepth 100000
namespace Go.Proofs.YtlldeifbfpmbaaaGreat
open Go.RowKit Go.Proofs Go.MapKept
theorem refBetter_any (ga ba qa : Option Addr) (gc bc qc nq : Nat) (f : Fair) (g a b : Int) (w : World) (hlg : Lg5 f nq) (hF : FAg w.heap.size w ga ba qa f nq) (g0 : 0 ≤ g) (g1 : g < f.n) :
  Calls Tryz.prog 47 #[.agg #[.slice ga f.n gc, .slice ba f.m bc, .slice qa nq qc], iv g, iv a, iv b] w fun e w' => e = .returned (.bool (decide (f.lik g a b))) ∧ Below w.heap.size w w' := by
 obtain ⟨A, C, RB, RO, gb, go, hga, hrow, hra, hel, hcan⟩ := hF.g.open
 refine calls_of_run (F := [(0, _), (1, _), (2, _), (3, _)]) Tryz.func47 rfl Tryz.ntmps47 rfl rfl ?_
 have hO0 := Own.init w
 refine run_seq <| run_region <| rl_ow rfl (ow_box _ rfl rfl rfl rfl rfl hO0) ?_
 rintro _ w1 ⟨b3, rfl, hO2, hs3⟩
 refine rl_v rfl rfl rfl (ov_assign rfl rfl) <| rl_nil <| run_seq <| run_seq <| run_region_join 14 (.bool (decide (a < 0 ∨ b < 0))) [1, 2, 3, 4] (fun hk4 => ?_) ?_
 ·refine rl_v rfl rfl rfl (ov_move rfl rfl) <| rl_v rfl rfl rfl (ov_lss rfl rfl rfl) <| rl_v rfl rfl rfl (ov_move rfl rfl) ?_
  first | refine rl_split_dec 11 rfl (fun hg5 => ?_) (fun hg5 => ?_) | refine rl_split 11 rfl (fun hg5 => ?_) (fun hg5 => ?_)
  ·refine rl_gskip rfl rfl rfl rfl rfl rfl <| rl_gskip rfl rfl rfl rfl rfl rfl <| rl_v rfl rfl rfl (ov_pick_t rfl rfl rfl) ?_
   refine rl_nil (hk4 _ (jbt rfl (by omega)) (And.intro rfl (And.intro rfl (And.intro rfl (And.intro rfl trivial)))))
  ·refine rl_gv rfl rfl rfl rfl rfl (ov_move rfl rfl) <| rl_gv rfl rfl rfl rfl rfl (ov_lss rfl rfl rfl) <| rl_v rfl rfl rfl (ov_pick_f rfl rfl rfl) ?_
   refine rl_nil (hk4 _ (jbd rfl (by omega)) (And.intro rfl (And.intro rfl (And.intro rfl (And.intro rfl trivial)))))
 ·show Run _ _ _ _ [(14, _), (1, _), (2, _), (3, _), (4, _)] _ _
  first | refine run_cond_dec rfl (fun h1 => ?_) (fun h1 => ?_) | refine run_cond rfl (fun h1 => ?_) (fun h1 => ?_)
  ·refine run_seq <| run_region <| rl_v rfl rfl rfl (ov_move rfl rfl) <| rl_v rfl rfl rfl (ov_geq rfl rfl rfl) <| rl_v rfl rfl rfl (ov_move rfl rfl) ?_
   first | refine rl_split_dec 17 rfl (fun h2 => ?_) (fun h2 => ?_) | refine rl_split 17 rfl (fun h2 => ?_) (fun h2 => ?_)
   ·refine rl_gv rfl rfl rfl rfl rfl (ov_move rfl rfl) <| rl_gv rfl rfl rfl rfl rfl (ov_lss rfl rfl rfl) <| rl_v rfl rfl rfl (ov_pick_t rfl rfl rfl) <| rl_v rfl rfl rfl (ov_assign rfl rfl) <| rl_nil <| run_ret Tryz.func47 (res1 Tryz.results47 rfl) ?_
    exact ⟨congrArg (fun x => Ending.returned (.bool x)) (decide_eq_decide.2 ⟨fun h => ⟨by omega, .inl h⟩, fun _ => by omega⟩), hO2.tail.below⟩
   ·refine rl_gskip rfl rfl rfl rfl rfl rfl <| rl_gskip rfl rfl rfl rfl rfl rfl <| rl_v rfl rfl rfl (ov_pick_f rfl rfl rfl) <| rl_v rfl rfl rfl (ov_assign rfl rfl) <| rl_nil <| run_ret Tryz.func47 (res1 Tryz.results47 rfl) ?_
    exact ⟨congrArg (fun x => Ending.returned (.bool x)) (decide_eq_false fun h => h2 h.1).symm, hO2.tail.below⟩
  ·refine run_skip <| run_seq <| run_class (Cl5 w.heap.size w [some (lch b3 25 [.slice ga f.n gc, .slice ba f.m bc, .slice qa nq qc])]) (⟨hO2.drew⟩) mixed (by kernel_rfl) ?_
   refine rk_v rfl rfl rfl (fun wq hQ => ov_fieldS rfl Tryz.underlying25 rfl (fo := 0) rfl (by kernel_rfl) rfl) ?_
   refine rk_v rfl rfl rfl (fun wq hQ => ov_load rfl Tryz.underlying22 rfl rfl (by exact (hQ.own).cellL 0 rfl (off := 0) rfl)) ?_
   refine rk_v rfl rfl rfl (fun wq hQ => ov_move rfl rfl) ?_
   refine rk_v rfl rfl rfl (fun wq hQ => ov_index1 rfl Tryz.underlying22 (by kernel_rfl) rfl rfl ⟨by omega, by omega⟩ (by exact hga (by omega))) ?_
   refine rk_v rfl rfl rfl (fun wq hQ => ov_load rfl Tryz.underlying23 rfl rfl (by exact hrow _ (hQ.own).below _ (by omega) (by omega))) ?_
   refine rk_v rfl rfl rfl (fun wq hQ => ov_move rfl rfl) ?_
   refine rk_call callable_14 rfl rfl rfl rfl rfl rfl (fun wq hQ => (rank5_any (A g) (f.gl g) (C g) (f.ge g) a _ (hlg.gl g g0 g1) ((hQ.own).iatF (hcan g g0 g1))).mono fun _ _ h => ⟨h.1, ⟨(hQ.own).past h.2⟩⟩) ?_
   refine rk_v rfl rfl rfl (fun wq hQ => ov_fieldS rfl Tryz.underlying25 rfl (fo := 0) rfl (by kernel_rfl) rfl) ?_
   refine rk_v rfl rfl rfl (fun wq hQ => ov_load rfl Tryz.underlying22 rfl rfl (by exact (hQ.own).cellL 0 rfl (off := 0) rfl)) ?_
   refine rk_v rfl rfl rfl (fun wq hQ => ov_move rfl rfl) ?_
   refine rk_v rfl rfl rfl (fun wq hQ => ov_index1 rfl Tryz.underlying22 (by kernel_rfl) rfl rfl ⟨by omega, by omega⟩ (by exact hga (by omega))) ?_
   refine rk_v rfl rfl rfl (fun wq hQ => ov_load rfl Tryz.underlying23 rfl rfl (by exact hrow _ (hQ.own).below _ (by omega) (by omega))) ?_
   refine rk_v rfl rfl rfl (fun wq hQ => ov_move rfl rfl) ?_
   refine rk_call callable_14 rfl rfl rfl rfl rfl rfl (fun wq hQ => (rank5_any (A g) (f.gl g) (C g) (f.ge g) b _ (hlg.gl g g0 g1) ((hQ.own).iatF (hcan g g0 g1))).mono fun _ _ h => ⟨h.1, ⟨(hQ.own).past h.2⟩⟩) ?_
   refine rk_v rfl rfl rfl (fun wq hQ => ov_lss rfl rfl rfl) ?_
   refine rk_v rfl rfl rfl (fun wq hQ => ov_assign rfl rfl) ?_
   refine rk_nil (fun w13 hQ => ?_)
   refine run_ret Tryz.func47 (res1 Tryz.results47 rfl) ?_
   exact ⟨congrArg (fun x => Ending.returned (.bool x)) (decide_eq_decide.2 ⟨fun h => ⟨by omega, .inr h⟩, fun h => h.2.elim (fun h => by omega) id⟩), (hQ.own).tail.below⟩
theorem lik_trans {f : Fair} {g a b c : Int} (h1 : f.lik g a b) (h2 : f.lik g b c) : f.lik g a c := by unfold Fair.lik at *; omega
theorem lik_irr {f : Fair} {g a : Int} : ¬ f.lik g a a := by unfold Fair.lik; omega
def BestL (f : Fair) (N : Nat) (A : Int → Int → Int) (l : Int → Int) : Prop := ∀ g : Int, 0 ≤ g → g < f.n → (∃ r : Int, (0 ≤ r ∧ r < N) ∧ l g = A r g) ∧ ∀ r : Int, 0 ≤ r → r < N → ¬ f.lik g (A r g) (l g)
def WorstL (f : Fair) (N : Nat) (A : Int → Int → Int) (l : Int → Int) : Prop := ∀ g : Int, 0 ≤ g → g < f.n → (∃ r : Int, (0 ≤ r ∧ r < N) ∧ l g = A r g) ∧ ∀ r : Int, 0 ≤ r → r < N → ¬ f.lik g (l g) (A r g)
set_option maxHeartbeats 2000000 in
theorem refBest_any (ga ba qa aa : Option Addr) (gc bc qc nq N ac : Nat) (f : Fair) (A : Int → Int → Int) (w : World) (hlg : Lg5 f nq) (hF : FAg w.heap.size w ga ba qa f nq) (hN1 : 1 ≤ N) (hN : N ≤ 1000000) (hA : ITab w.heap.size w aa N (fun _ => f.n) (fun r c => iv (A r c))) :
  Calls Tryz.prog 18 #[.agg #[.slice ga f.n gc, .slice ba f.m bc, .slice qa nq qc], .slice aa N ac, .bool true] w fun e w' => ∃ va vc c l, e = .returned (.slice va f.n vc) ∧ IRow (.slice va f.n vc) 3 f.n (fun g => iv (l g)) c ∧ Own w.heap.size w w' [c] ∧ BestL f N A l := by
 obtain ⟨RA, RC, RB, RO, gb, go, hga, hrow, hra, hel, hcan⟩ := hA.open
 have hn := hlg.n
 refine calls_of_run (F := [(0, _), (1, _), (2, _)]) Tryz.func18 rfl Tryz.ntmps18 rfl rfl ?_
 have hO0 := Own.init w
 refine run_seq <| run_region <| rl_ow rfl (ow_box _ rfl rfl rfl rfl rfl hO0) ?_
 rintro _ w1 ⟨b3, rfl, hO2, hs3⟩
 refine rl_v rfl rfl rfl (ov_assign rfl rfl) <| rl_nil <| run_seq <| run_region <| rl_v rfl rfl rfl (ov_assign rfl rfl) <| rl_nil <| run_seq <| run_seq <| run_region <| rl_v rfl rfl rfl (ov_assign rfl rfl) <| rl_nil <| run_block <| Run.keep [1, 2, 3, 7, 8] (F' := [(1, _), (2, _), (3, _), (7, _), (8, _)]) rfl <| run_loop3 (fun (g : Nat) (va : Option Addr) (vc : Nat) => [(8, .int .i64 (g : Int)), (7, .slice va g vc)]) [1, 2, 3] (fun (g : Nat) (va : Option Addr) (vc : Nat) (w4 : World) => g ≤ f.n ∧ ∃ (c : Option Blk) (l : Int → Int), IRow (.slice va g vc) 3 g (fun i => iv (l i)) c ∧ (∀ i : Int, 0 ≤ i → i < g → (∃ r : Int, (0 ≤ r ∧ r < N) ∧ l i = A r i) ∧ ∀ r : Int, 0 ≤ r → r < N → ¬ f.lik i (A r i) (l i)) ∧ Own w.heap.size w w4 [c, some (lch b3 25 [.slice ga f.n gc, .slice ba f.m bc, .slice qa nq qc])]) (fun (g : Nat) (va : Option Addr) (vc : Nat) => f.n - g) (0) (none) (0) ?_ (And.intro (by exact slot_int rfl (by first | omega)) (And.intro rfl (And.intro rfl (And.intro rfl (And.intro rfl trivial))))) ?_
 ·exact ⟨Nat.zero_le _, none, fun _ => 0, IRow.nil _ _, fun i i0 i1 => by omega, hO2.nil_cons⟩
 intro g va vc w4 hIw4 ih5
 obtain ⟨hg, c, l, hr, hl, hO⟩ := hIw4
 show Run _ _ _ _ [(8, _), (7, _), (1, _), (2, _), (3, _)] _ _
 refine run_seq <| run_seq <| run_region <| rl_v rfl rfl rfl (ov_move rfl rfl) <| rl_v rfl rfl rfl (ov_fieldS rfl Tryz.underlying25 rfl (fo := 0) rfl (by kernel_rfl) rfl) ?_
 refine rl_v rfl rfl rfl (ov_load rfl Tryz.underlying22 rfl rfl (by exact hO.cellL 1 rfl (off := 0) rfl)) ?_
 refine rl_v rfl rfl rfl (ov_len rfl Tryz.underlying22 rfl) <| rl_v rfl rfl rfl (ov_lss rfl rfl rfl) <| rl_nil ?_
 first | refine run_cond_dec rfl (fun h1 => ?_) (fun h1 => ?_) | refine run_cond rfl (fun h1 => ?_) (fun h1 => ?_)
 ·refine run_skip <| run_seq <| run_block <| run_seq <| run_region <| rl_v rfl rfl rfl (ov_move rfl rfl) <| rl_v rfl rfl rfl (ov_index1 rfl Tryz.underlying22 (by kernel_rfl) rfl rfl ⟨by omega, by omega⟩ (by exact hga (by omega))) ?_
  refine rl_v rfl rfl rfl (ov_load rfl Tryz.underlying23 rfl rfl (by exact hrow _ hO.below _ (by omega) (by omega))) ?_
  refine rl_v rfl rfl rfl (ov_move rfl rfl) <| rl_v rfl rfl rfl (ov_index1 rfl Tryz.underlying23 (by kernel_rfl) rfl rfl ⟨by omega, by omega⟩ (by exact hra _ (by omega) (by omega) (by omega))) ?_
  refine rl_v rfl rfl rfl (ov_load rfl Tryz.underlying3 rfl rfl (by exact hel _ hO.below _ (by omega) (by omega) _ (by omega) (by omega))) ?_
  refine rl_v rfl rfl rfl (ov_assign rfl rfl) <| rl_nil <| run_seq <| run_seq <| run_region <| rl_v rfl rfl rfl (ov_assign rfl rfl) <| rl_nil <| run_block <| Run.keep [1, 2, 3, 7, 8, 9, 10] (F' := [(1, _), (2, _), (3, _), (7, _), (8, _), (9, _), (10, _)]) rfl <| run_loop2 (fun (i : Int) (x : Int) => [(10, .int .i64 i), (9, .int .i64 x)]) [1, 2, 3, 7, 8] (fun (i : Int) (x : Int) (w6 : World) => 1 ≤ i ∧ i ≤ N ∧ (∃ r : Int, (0 ≤ r ∧ r < N) ∧ x = A r g) ∧ (∀ r : Int, 0 ≤ r → r < i → ¬ f.lik g (A r g) x) ∧ Own w.heap.size w w6 [c, some (lch b3 25 [.slice ga f.n gc, .slice ba f.m bc, .slice qa nq qc])]) (fun (i : Int) (x : Int) => ((N : Int) - i).toNat) (1) (A 0 g) ?_ (And.intro (by exact slot_int rfl (by first | omega)) (And.intro (by exact slot_int rfl (by first | omega)) (And.intro rfl (And.intro rfl (And.intro rfl (And.intro rfl (And.intro rfl trivial))))))) ?_
  ·exact ⟨by omega, by omega, ⟨0, by omega, rfl⟩, fun r r0 r1 => by rw [show r = 0 by omega]; exact lik_irr, hO⟩
  intro i x w6 hIw6 ih7
  obtain ⟨hi0, hi1, hx, hxm, hO⟩ := hIw6
  show Run _ _ _ _ [(10, _), (9, _), (1, _), (2, _), (3, _), (7, _), (8, _)] _ _
  refine run_seq <| run_seq <| run_region <| rl_v rfl rfl rfl (ov_move rfl rfl) <| rl_v rfl rfl rfl (ov_move rfl rfl) <| rl_v rfl rfl rfl (ov_len rfl Tryz.underlying22 rfl) <| rl_v rfl rfl rfl (ov_lss rfl rfl rfl) <| rl_nil ?_
  first | refine run_cond_dec rfl (fun h2 => ?_) (fun h2 => ?_) | refine run_cond rfl (fun h2 => ?_) (fun h2 => ?_)
  ·refine run_skip <| run_seq <| run_block <| run_seq <| run_region <| rl_v rfl rfl rfl (ov_move rfl rfl) <| rl_v rfl rfl rfl (ov_move rfl rfl) <| rl_v rfl rfl rfl (ov_index1 rfl Tryz.underlying22 (by kernel_rfl) rfl rfl ⟨by omega, by omega⟩ (by exact hga (by omega))) ?_
   refine rl_v rfl rfl rfl (ov_load rfl Tryz.underlying23 rfl rfl (by exact hrow _ hO.below _ (by omega) (by omega))) ?_
   refine rl_v rfl rfl rfl (ov_move rfl rfl) <| rl_v rfl rfl rfl (ov_index1 rfl Tryz.underlying23 (by kernel_rfl) rfl rfl ⟨by omega, by omega⟩ (by exact hra _ (by omega) (by omega) (by omega))) ?_
   refine rl_v rfl rfl rfl (ov_load rfl Tryz.underlying3 rfl rfl (by exact hel _ hO.below _ (by omega) (by omega) _ (by omega) (by omega))) ?_
   refine rl_v rfl rfl rfl (ov_assign rfl rfl) <| rl_nil <| run_seq <| run_region <| rl_v rfl rfl rfl (ov_move rfl rfl) <| rl_v rfl rfl rfl (ov_move rfl rfl) ?_
   first | refine rl_yesD 39 rfl (rfl) ?_ | refine rl_yes 39 rfl (rfl) ?_
   refine rl_gv rfl rfl rfl rfl rfl (ov_loadW rfl Tryz.underlying25 rfl (by kernel_rfl) rfl hO 1 rfl) ?_
   refine rl_gv rfl rfl rfl rfl rfl (ov_move rfl rfl) <| rl_gv rfl rfl rfl rfl rfl (ov_move rfl rfl) <| rl_gv rfl rfl rfl rfl rfl (ov_move rfl rfl) ?_
   refine rl_gcall callable_47 rfl rfl rfl rfl rfl rfl rfl rfl (refBetter_any ga ba qa gc bc qc nq f g (A i g) x _ hlg (hO.fag hF) (by omega) (by omega)) (fun e8 w9 hp10 => ?_)
   obtain ⟨rfl, hb1⟩ := hp10
   refine ⟨_, rfl, ?_⟩
   have hO11 := hO.past hb1
   refine rl_v rfl rfl rfl (ov_pick_t rfl rfl rfl) <| rl_v rfl rfl rfl (ov_move rfl rfl) ?_
   first | refine rl_split_dec 46 rfl (fun q1 => ?_) (fun q1 => ?_) | refine rl_split 46 rfl (fun q1 => ?_) (fun q1 => ?_)
   ·refine rl_gskip rfl rfl rfl rfl rfl rfl <| rl_gskip rfl rfl rfl rfl rfl rfl <| rl_gskip rfl rfl rfl rfl rfl rfl <| rl_gundef rfl rfl rfl rfl rfl <| rl_gundef rfl rfl rfl rfl rfl <| rl_gundef rfl rfl rfl rfl rfl <| rl_gundef rfl rfl rfl rfl rfl <| rl_gundef rfl rfl rfl rfl rfl <| rl_gskip rfl rfl rfl rfl rfl rfl <| rl_v rfl rfl rfl (ov_pick_t rfl rfl rfl) <| rl_nil <| run_cond_t rfl ?_
    have hq : f.lik g (A i g) x := q1
    refine run_region <| rl_v rfl rfl rfl (ov_move rfl rfl) <| rl_v rfl rfl rfl (ov_assign rfl rfl) <| rl_nil <| run_inBlock <| run_region <| rl_v rfl rfl rfl (ov_move rfl rfl) <| rl_v rfl rfl rfl (ov_add rfl rfl rfl (by omega)) ?_
    refine rl_v rfl rfl rfl (ov_assign rfl rfl) <| rl_nil ?_
    refine Run.use (ih7 (i + 1) (A i g) _ ?_ ?_) (And.intro (by exact slot_int rfl (by first | omega)) (And.intro (by exact slot_int rfl (by first | omega)) (And.intro rfl (And.intro rfl (And.intro rfl (And.intro rfl (And.intro rfl trivial)))))))
    ·first | omega | (dsimp only; omega)
    ·exact ⟨by omega, by omega, ⟨i, by omega, rfl⟩, fun r r0 r1 => by by_cases e : r = i; (rw [e]; exact lik_irr); (exact fun h => hxm r r0 (by omega) (lik_trans h hq)), hO11⟩
   ·refine rl_gv rfl rfl rfl rfl rfl (ov_move rfl rfl) <| rl_gv rfl rfl rfl rfl rfl (ov_not rfl rfl) <| rl_gv rfl rfl rfl rfl rfl (ov_move rfl rfl) ?_
    first | refine rl_noD 49 rfl (rfl) ?_ | refine rl_no 49 rfl (rfl) ?_
    refine rl_gskip rfl rfl rfl rfl rfl rfl <| rl_gskip rfl rfl rfl rfl rfl rfl <| rl_gskip rfl rfl rfl rfl rfl rfl <| rl_gskip rfl rfl rfl rfl rfl rfl <| rl_gskip rfl rfl rfl rfl rfl rfl <| rl_gv rfl rfl rfl rfl rfl (ov_pick_f rfl rfl rfl) <| rl_v rfl rfl rfl (ov_pick_f rfl rfl rfl) <| rl_nil <| run_cond_f rfl ?_
    have hq : ¬ f.lik g (A i g) x := q1
    refine run_skip <| run_inBlock <| run_region <| rl_v rfl rfl rfl (ov_move rfl rfl) <| rl_v rfl rfl rfl (ov_add rfl rfl rfl (by omega)) ?_
    refine rl_v rfl rfl rfl (ov_assign rfl rfl) <| rl_nil ?_
    refine Run.use (ih7 (i + 1) (x) _ ?_ ?_) (And.intro (by exact slot_int rfl (by first | omega)) (And.intro (by exact slot_int rfl (by first | omega)) (And.intro rfl (And.intro rfl (And.intro rfl (And.intro rfl (And.intro rfl trivial)))))))
    ·first | omega | (dsimp only; omega)
    ·exact ⟨by omega, by omega, hx, fun r r0 r1 => by by_cases e : r = i; (rw [e]; exact hq); (exact hxm r r0 (by omega)), hO11⟩
  ·obtain rfl : i = N := by omega
   refine run_exit rfl <| run_region <| rl_v rfl rfl rfl (ov_move rfl rfl) <| rl_v rfl rfl rfl (ov_move rfl rfl) ?_
   refine rl_appI rfl rfl rfl rfl rfl rfl rfl rfl Tryz.underlying23 info_3 rfl hO 0 hr rfl rfl rfl ⟨by omega, by omega⟩ (fun v61 c61 w13 hO14 hr61 hs15 => ?_)
   obtain ⟨a61, cp61, rfl⟩ := Row.val hr61
   refine rl_v rfl rfl rfl (ov_assign rfl rfl) <| rl_nil <| run_inBlock <| run_region <| rl_v rfl rfl rfl (ov_move rfl rfl) <| rl_v rfl rfl rfl (ov_add rfl rfl rfl (by omega)) ?_
   refine rl_v rfl rfl rfl (ov_assign rfl rfl) <| rl_nil ?_
   refine Run.use (ih5 (g + 1) (a61) (cp61) _ ?_ ?_) (And.intro (by exact slot_int rfl (by first | omega)) (And.intro rfl (And.intro rfl (And.intro rfl (And.intro rfl trivial)))))
   ·first | omega | (dsimp only; omega)
   ·exact ⟨by omega, c61, upd l g x, hr61.congr (fun j _ _ => by unfold upd; split <;> rfl), fun j j0 j1 => (by by_cases e : j = g; (rw [e, upd_same]; exact ⟨hx, hxm⟩); (rw [upd_ne _ _ e]; exact hl j j0 (by omega))), hO14⟩
 ·have hgn : f.n = g := by omega
  refine run_exit rfl <| run_seq <| run_region <| rl_v rfl rfl rfl (ov_move rfl rfl) <| rl_v rfl rfl rfl (ov_assign rfl rfl) <| rl_nil <| run_ret Tryz.func18 (res1 Tryz.results18 rfl) ?_
  exact ⟨va, vc, c, l, by rw [hgn], by rw [hgn]; exact hr, hO.sub (.cons_cons _ (List.nil_sublist _)), fun j j0 j1 => hl j j0 (by omega)⟩
set_option maxHeartbeats 2000000 in
theorem refWorst_any (ga ba qa aa : Option Addr) (gc bc qc nq N ac : Nat) (f : Fair) (A : Int → Int → Int) (w : World) (hlg : Lg5 f nq) (hF : FAg w.heap.size w ga ba qa f nq) (hN1 : 1 ≤ N) (hN : N ≤ 1000000) (hA : ITab w.heap.size w aa N (fun _ => f.n) (fun r c => iv (A r c))) :
  Calls Tryz.prog 18 #[.agg #[.slice ga f.n gc, .slice ba f.m bc, .slice qa nq qc], .slice aa N ac, .bool false] w fun e w' => ∃ va vc c l, e = .returned (.slice va f.n vc) ∧ IRow (.slice va f.n vc) 3 f.n (fun g => iv (l g)) c ∧ Own w.heap.size w w' [c] ∧ WorstL f N A l := by
 obtain ⟨RA, RC, RB, RO, gb, go, hga, hrow, hra, hel, hcan⟩ := hA.open
 have hn := hlg.n
 refine calls_of_run (F := [(0, _), (1, _), (2, _)]) Tryz.func18 rfl Tryz.ntmps18 rfl rfl ?_
 have hO0 := Own.init w
 refine run_seq <| run_region <| rl_ow rfl (ow_box _ rfl rfl rfl rfl rfl hO0) ?_
 rintro _ w1 ⟨b3, rfl, hO2, hs3⟩
 refine rl_v rfl rfl rfl (ov_assign rfl rfl) <| rl_nil <| run_seq <| run_region <| rl_v rfl rfl rfl (ov_assign rfl rfl) <| rl_nil <| run_seq <| run_seq <| run_region <| rl_v rfl rfl rfl (ov_assign rfl rfl) <| rl_nil <| run_block <| Run.keep [1, 2, 3, 7, 8] (F' := [(1, _), (2, _), (3, _), (7, _), (8, _)]) rfl <| run_loop3 (fun (g : Nat) (va : Option Addr) (vc : Nat) => [(8, .int .i64 (g : Int)), (7, .slice va g vc)]) [1, 2, 3] (fun (g : Nat) (va : Option Addr) (vc : Nat) (w4 : World) => g ≤ f.n ∧ ∃ (c : Option Blk) (l : Int → Int), IRow (.slice va g vc) 3 g (fun i => iv (l i)) c ∧ (∀ i : Int, 0 ≤ i → i < g → (∃ r : Int, (0 ≤ r ∧ r < N) ∧ l i = A r i) ∧ ∀ r : Int, 0 ≤ r → r < N → ¬ f.lik i (l i) (A r i)) ∧ Own w.heap.size w w4 [c, some (lch b3 25 [.slice ga f.n gc, .slice ba f.m bc, .slice qa nq qc])]) (fun (g : Nat) (va : Option Addr) (vc : Nat) => f.n - g) (0) (none) (0) ?_ (And.intro (by exact slot_int rfl (by first | omega)) (And.intro rfl (And.intro rfl (And.intro rfl (And.intro rfl trivial))))) ?_
 ·exact ⟨Nat.zero_le _, none, fun _ => 0, IRow.nil _ _, fun i i0 i1 => by omega, hO2.nil_cons⟩
 intro g va vc w4 hIw4 ih5
 obtain ⟨hg, c, l, hr, hl, hO⟩ := hIw4
 show Run _ _ _ _ [(8, _), (7, _), (1, _), (2, _), (3, _)] _ _
 refine run_seq <| run_seq <| run_region <| rl_v rfl rfl rfl (ov_move rfl rfl) <| rl_v rfl rfl rfl (ov_fieldS rfl Tryz.underlying25 rfl (fo := 0) rfl (by kernel_rfl) rfl) ?_
 refine rl_v rfl rfl rfl (ov_load rfl Tryz.underlying22 rfl rfl (by exact hO.cellL 1 rfl (off := 0) rfl)) ?_
 refine rl_v rfl rfl rfl (ov_len rfl Tryz.underlying22 rfl) <| rl_v rfl rfl rfl (ov_lss rfl rfl rfl) <| rl_nil ?_
 first | refine run_cond_dec rfl (fun h1 => ?_) (fun h1 => ?_) | refine run_cond rfl (fun h1 => ?_) (fun h1 => ?_)
 ·refine run_skip <| run_seq <| run_block <| run_seq <| run_region <| rl_v rfl rfl rfl (ov_move rfl rfl) <| rl_v rfl rfl rfl (ov_index1 rfl Tryz.underlying22 (by kernel_rfl) rfl rfl ⟨by omega, by omega⟩ (by exact hga (by omega))) ?_
  refine rl_v rfl rfl rfl (ov_load rfl Tryz.underlying23 rfl rfl (by exact hrow _ hO.below _ (by omega) (by omega))) ?_
  refine rl_v rfl rfl rfl (ov_move rfl rfl) <| rl_v rfl rfl rfl (ov_index1 rfl Tryz.underlying23 (by kernel_rfl) rfl rfl ⟨by omega, by omega⟩ (by exact hra _ (by omega) (by omega) (by omega))) ?_
  refine rl_v rfl rfl rfl (ov_load rfl Tryz.underlying3 rfl rfl (by exact hel _ hO.below _ (by omega) (by omega) _ (by omega) (by omega))) ?_
  refine rl_v rfl rfl rfl (ov_assign rfl rfl) <| rl_nil <| run_seq <| run_seq <| run_region <| rl_v rfl rfl rfl (ov_assign rfl rfl) <| rl_nil <| run_block <| Run.keep [1, 2, 3, 7, 8, 9, 10] (F' := [(1, _), (2, _), (3, _), (7, _), (8, _), (9, _), (10, _)]) rfl <| run_loop2 (fun (i : Int) (x : Int) => [(10, .int .i64 i), (9, .int .i64 x)]) [1, 2, 3, 7, 8] (fun (i : Int) (x : Int) (w6 : World) => 1 ≤ i ∧ i ≤ N ∧ (∃ r : Int, (0 ≤ r ∧ r < N) ∧ x = A r g) ∧ (∀ r : Int, 0 ≤ r → r < i → ¬ f.lik g x (A r g)) ∧ Own w.heap.size w w6 [c, some (lch b3 25 [.slice ga f.n gc, .slice ba f.m bc, .slice qa nq qc])]) (fun (i : Int) (x : Int) => ((N : Int) - i).toNat) (1) (A 0 g) ?_ (And.intro (by exact slot_int rfl (by first | omega)) (And.intro (by exact slot_int rfl (by first | omega)) (And.intro rfl (And.intro rfl (And.intro rfl (And.intro rfl (And.intro rfl trivial))))))) ?_
  ·exact ⟨by omega, by omega, ⟨0, by omega, rfl⟩, fun r r0 r1 => by rw [show r = 0 by omega]; exact lik_irr, hO⟩
  intro i x w6 hIw6 ih7
  obtain ⟨hi0, hi1, hx, hxm, hO⟩ := hIw6
  show Run _ _ _ _ [(10, _), (9, _), (1, _), (2, _), (3, _), (7, _), (8, _)] _ _
  refine run_seq <| run_seq <| run_region <| rl_v rfl rfl rfl (ov_move rfl rfl) <| rl_v rfl rfl rfl (ov_move rfl rfl) <| rl_v rfl rfl rfl (ov_len rfl Tryz.underlying22 rfl) <| rl_v rfl rfl rfl (ov_lss rfl rfl rfl) <| rl_nil ?_
  first | refine run_cond_dec rfl (fun h2 => ?_) (fun h2 => ?_) | refine run_cond rfl (fun h2 => ?_) (fun h2 => ?_)
  ·refine run_skip <| run_seq <| run_block <| run_seq <| run_region <| rl_v rfl rfl rfl (ov_move rfl rfl) <| rl_v rfl rfl rfl (ov_move rfl rfl) <| rl_v rfl rfl rfl (ov_index1 rfl Tryz.underlying22 (by kernel_rfl) rfl rfl ⟨by omega, by omega⟩ (by exact hga (by omega))) ?_
   refine rl_v rfl rfl rfl (ov_load rfl Tryz.underlying23 rfl rfl (by exact hrow _ hO.below _ (by omega) (by omega))) ?_
   refine rl_v rfl rfl rfl (ov_move rfl rfl) <| rl_v rfl rfl rfl (ov_index1 rfl Tryz.underlying23 (by kernel_rfl) rfl rfl ⟨by omega, by omega⟩ (by exact hra _ (by omega) (by omega) (by omega))) ?_
   refine rl_v rfl rfl rfl (ov_load rfl Tryz.underlying3 rfl rfl (by exact hel _ hO.below _ (by omega) (by omega) _ (by omega) (by omega))) ?_
   refine rl_v rfl rfl rfl (ov_assign rfl rfl) <| rl_nil <| run_seq <| run_region <| rl_v rfl rfl rfl (ov_move rfl rfl) <| rl_v rfl rfl rfl (ov_move rfl rfl) ?_
   first | refine rl_noD 39 rfl (rfl) ?_ | refine rl_no 39 rfl (rfl) ?_
   refine rl_gskip rfl rfl rfl rfl rfl rfl <| rl_gskip rfl rfl rfl rfl rfl rfl <| rl_gskip rfl rfl rfl rfl rfl rfl <| rl_gskip rfl rfl rfl rfl rfl rfl <| rl_gskip rfl rfl rfl rfl rfl rfl <| rl_v rfl rfl rfl (ov_pick_f rfl rfl rfl) <| rl_v rfl rfl rfl (ov_move rfl rfl) <| rl_gv rfl rfl rfl rfl rfl (ov_move rfl rfl) <| rl_gv rfl rfl rfl rfl rfl (ov_not rfl rfl) <| rl_gv rfl rfl rfl rfl rfl (ov_move rfl rfl) ?_
   first | refine rl_yesD 49 rfl (rfl) ?_ | refine rl_yes 49 rfl (rfl) ?_
   refine rl_gv rfl rfl rfl rfl rfl (ov_loadW rfl Tryz.underlying25 rfl (by kernel_rfl) rfl hO 1 rfl) ?_
   refine rl_gv rfl rfl rfl rfl rfl (ov_move rfl rfl) <| rl_gv rfl rfl rfl rfl rfl (ov_move rfl rfl) <| rl_gv rfl rfl rfl rfl rfl (ov_move rfl rfl) ?_
   refine rl_gcall callable_47 rfl rfl rfl rfl rfl rfl rfl rfl (refBetter_any ga ba qa gc bc qc nq f g x (A i g) _ hlg (hO.fag hF) (by omega) (by omega)) (fun e8 w9 hp10 => ?_)
   obtain ⟨rfl, hb1⟩ := hp10
   refine ⟨_, rfl, ?_⟩
   have hO11 := hO.past hb1
   refine rl_gv rfl rfl rfl rfl rfl (ov_pick_t rfl rfl rfl) <| rl_v rfl rfl rfl (ov_pick_f rfl rfl rfl) <| rl_nil ?_
   first | refine run_cond_dec rfl (fun h3 => ?_) (fun h3 => ?_) | refine run_cond rfl (fun h3 => ?_) (fun h3 => ?_)
   ·refine run_region <| rl_v rfl rfl rfl (ov_move rfl rfl) <| rl_v rfl rfl rfl (ov_assign rfl rfl) <| rl_nil <| run_inBlock <| run_region <| rl_v rfl rfl rfl (ov_move rfl rfl) <| rl_v rfl rfl rfl (ov_add rfl rfl rfl (by omega)) ?_
    refine rl_v rfl rfl rfl (ov_assign rfl rfl) <| rl_nil ?_
    refine Run.use (ih7 (i + 1) (A i g) _ ?_ ?_) (And.intro (by exact slot_int rfl (by first | omega)) (And.intro (by exact slot_int rfl (by first | omega)) (And.intro rfl (And.intro rfl (And.intro rfl (And.intro rfl (And.intro rfl trivial)))))))
    ·first | omega | (dsimp only; omega)
    ·exact ⟨by omega, by omega, ⟨i, by omega, rfl⟩, fun r r0 r1 => by by_cases e : r = i; (rw [e]; exact lik_irr); (exact fun h => hxm r r0 (by omega) (lik_trans h3 h)), hO11⟩
   ·refine run_skip <| run_inBlock <| run_region <| rl_v rfl rfl rfl (ov_move rfl rfl) <| rl_v rfl rfl rfl (ov_add rfl rfl rfl (by omega)) ?_
    refine rl_v rfl rfl rfl (ov_assign rfl rfl) <| rl_nil ?_
    refine Run.use (ih7 (i + 1) (x) _ ?_ ?_) (And.intro (by exact slot_int rfl (by first | omega)) (And.intro (by exact slot_int rfl (by first | omega)) (And.intro rfl (And.intro rfl (And.intro rfl (And.intro rfl (And.intro rfl trivial)))))))
    ·first | omega | (dsimp only; omega)
    ·exact ⟨by omega, by omega, hx, fun r r0 r1 => by by_cases e : r = i; (rw [e]; exact h3); (exact hxm r r0 (by omega)), hO11⟩
  ·obtain rfl : i = N := by omega
   refine run_exit rfl <| run_region <| rl_v rfl rfl rfl (ov_move rfl rfl) <| rl_v rfl rfl rfl (ov_move rfl rfl) ?_
   refine rl_appI rfl rfl rfl rfl rfl rfl rfl rfl Tryz.underlying23 info_3 rfl hO 0 hr rfl rfl rfl ⟨by omega, by omega⟩ (fun v61 c61 w12 hO13 hr61 hs14 => ?_)
   obtain ⟨a61, cp61, rfl⟩ := Row.val hr61
   refine rl_v rfl rfl rfl (ov_assign rfl rfl) <| rl_nil <| run_inBlock <| run_region <| rl_v rfl rfl rfl (ov_move rfl rfl) <| rl_v rfl rfl rfl (ov_add rfl rfl rfl (by omega)) ?_
   refine rl_v rfl rfl rfl (ov_assign rfl rfl) <| rl_nil ?_
   refine Run.use (ih5 (g + 1) (a61) (cp61) _ ?_ ?_) (And.intro (by exact slot_int rfl (by first | omega)) (And.intro rfl (And.intro rfl (And.intro rfl (And.intro rfl trivial)))))
   ·first | omega | (dsimp only; omega)
   ·exact ⟨by omega, c61, upd l g x, hr61.congr (fun j _ _ => by unfold upd; split <;> rfl), fun j j0 j1 => (by by_cases e : j = g; (rw [e, upd_same]; exact ⟨hx, hxm⟩); (rw [upd_ne _ _ e]; exact hl j j0 (by omega))), hO13⟩
 ·have hgn : f.n = g := by omega
  refine run_exit rfl <| run_seq <| run_region <| rl_v rfl rfl rfl (ov_move rfl rfl) <| rl_v rfl rfl rfl (ov_assign rfl rfl) <| rl_nil <| run_ret Tryz.func18 (res1 Tryz.results18 rfl) ?_
  exact ⟨va, vc, c, l, by rw [hgn], by rw [hgn]; exact hr, hO.sub (.cons_cons _ (List.nil_sublist _)), fun j j0 j1 => hl j j0 (by omega)⟩
end Go.Proofs.YtlldeifbfpmbaaaGreat
