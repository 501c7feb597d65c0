import Derived.Test.YtlldeifbfpmbaaaGreatFcF
import Derived.Test.YtlldeifbfpmbaaaGreatFbJ
set_option maxRecDepth 100000
namespace Go.Proofs.YtlldeifbfpmbaaaGreat
open Go.RowKit Go.Proofs Go.MapKept
def RdR (T : List (Option Blk)) (v : Value) (n : Nat) (E : Int → Int) : Prop := ∃ (ao : Option Addr) (c : Nat), v = .slice ao n c ∧ n ≤ c ∧ ∀ (B : Nat) (w0 w : World), Own B w0 w T → IAt w.heap.size w ao n (fun j => iv (E j))
theorem RdR.cons {T : List (Option Blk)} {v : Value} {n : Nat} {E : Int → Int} (h : RdR T v n E) (c : Option Blk) : RdR (c :: T) v n E := by
 obtain ⟨ao, cp, h1, h2, h3⟩ := h
 exact ⟨ao, cp, h1, h2, fun B w0 w hO => h3 B w0 w hO.tail⟩
end Go.Proofs.YtlldeifbfpmbaaaGreat
set_option maxRecDepth 100000
namespace Go.Proofs.YtlldeifbfpmbaaaGreat
open Go.RowKit Go.Proofs Go.MapKept
theorem rank5_any (ao : Option Addr) (n c : Nat) (X : Int → Int) (v : Int) (w : World) (hn : n ≤ 1000000) (h : IAt w.heap.size w ao n (fun i => iv (X i))) :
  Calls Tryz.prog 14 #[.slice ao n c, iv v] w fun e w' => e = .returned (iv (rk X n v)) ∧ Below w.heap.size w w' := by
 obtain ⟨gb, go, hga, hrow⟩ := h.open
 have hr := rk_rng X v n
 refine calls_of_run (F := [(0, _), (1, _)]) Tryz.func14 rfl Tryz.ntmps14 rfl rfl ?_
 have hO0 := Own.init w
 refine run_seq <| run_region <| rl_v rfl rfl rfl (ov_assign rfl rfl) <| rl_nil <| run_seq <| run_seq <| run_region <| rl_v rfl rfl rfl (ov_assign rfl rfl) <| rl_nil <| run_block <| Run.keep [0, 1, 5] (F' := [(0, _), (1, _), (5, _)]) rfl <| run_loop1 (fun (k : Int) => [(5, .int .i64 k)]) [0, 1] (fun (k : Int) (w1 : World) => 0 ≤ k ∧ k ≤ n ∧ k ≤ rk X n v ∧ Own w.heap.size w w1 []) (fun (k : Int) => ((n : Int) - k).toNat) (0) ?_ (And.intro (by exact slot_int rfl (by first | omega)) (And.intro rfl (And.intro rfl trivial))) ?_
 ·exact ⟨by omega, by omega, hr.1, hO0⟩
 intro k w1 hIw1 ih2
 obtain ⟨hk0, hk1, hall, hO⟩ := hIw1
 show Run _ _ _ _ [(5, _), (0, _), (1, _)] _ _
 refine run_seq <| run_seq <| run_region <| rl_v rfl rfl rfl (ov_move rfl rfl) <| rl_v rfl rfl rfl (ov_move rfl rfl) <| rl_v rfl rfl rfl (ov_len rfl Tryz.underlying23 rfl) <| rl_v rfl rfl rfl (ov_lss rfl rfl rfl) <| rl_nil ?_
 first | refine run_cond_dec rfl (fun h1 => ?_) (fun h1 => ?_) | refine run_cond rfl (fun h1 => ?_) (fun h1 => ?_)
 ·refine run_skip <| run_seq <| run_block <| run_seq <| run_region <| rl_v rfl rfl rfl (ov_move rfl rfl) <| rl_v rfl rfl rfl (ov_move rfl rfl) <| rl_v rfl rfl rfl (ov_index1 rfl Tryz.underlying23 (by kernel_rfl) rfl rfl ⟨by omega, by omega⟩ (by exact hga (by omega))) ?_
  refine rl_v rfl rfl rfl (ov_load rfl Tryz.underlying3 rfl rfl (by exact hrow _ hO.below _ (by omega) (by omega))) ?_
  refine rl_v rfl rfl rfl (ov_move rfl rfl) <| rl_v rfl rfl rfl (ov_eql rfl rfl rfl) <| rl_nil ?_
  first | refine run_cond_dec rfl (fun h2 => ?_) (fun h2 => ?_) | refine run_cond rfl (fun h2 => ?_) (fun h2 => ?_)
  ·have hr2 : rk X n v = k := Classical.byContradiction fun e => rk_ne (n := n) hk0 (by omega) h2
   refine run_seq <| run_region <| rl_v rfl rfl rfl (ov_move rfl rfl) <| rl_v rfl rfl rfl (ov_assign rfl rfl) <| rl_nil <| run_ret Tryz.func14 (res1 Tryz.results14 rfl) ?_
   exact ⟨by rw [hr2], hO.below⟩
  ·have hk' : k + 1 ≤ rk X n v := by
    have : rk X n v ≠ k := fun e => h2 (by have := rk_at (f := X) (n := n) (x := v) (by omega); rw [e] at this; exact this)
    omega
   refine run_skip <| run_inBlock <| run_region <| rl_v rfl rfl rfl (ov_move rfl rfl) <| rl_v rfl rfl rfl (ov_add rfl rfl rfl (by omega)) ?_
   refine rl_v rfl rfl rfl (ov_assign rfl rfl) <| rl_nil ?_
   refine Run.use (ih2 _ _ ?_ ?_) (And.intro (by rfl) (And.intro rfl (And.intro rfl trivial)))
   ·first | omega | (dsimp only; omega)
   ·exact ⟨by omega, by omega, hk', hO⟩
 ·have hr3 : rk X n v = n := by omega
  refine run_exit rfl <| run_seq <| run_region <| rl_v rfl rfl rfl (ov_move rfl rfl) <| rl_v rfl rfl rfl (ov_len rfl Tryz.underlying23 rfl) <| rl_v rfl rfl rfl (ov_assign rfl rfl) <| rl_nil <| run_ret Tryz.func14 (res1 Tryz.results14 rfl) ?_
  exact ⟨by rw [hr3], hO.below⟩
theorem count5_any (ao : Option Addr) (n c : Nat) (l : Int → Int) (b : Int) (w : World) (hn : n ≤ 1000000) (h : IAt w.heap.size w ao n (fun i => iv (l i))) :
  Calls Tryz.prog 84 #[.slice ao n c, iv b] w fun e w' => e = .returned (iv (sm (fun g => if l g = b then 1 else 0) n)) ∧ Below w.heap.size w w' := by
 obtain ⟨gb, go, hga, hrow⟩ := h.open
 refine calls_of_run (F := [(0, _), (1, _)]) Tryz.func84 rfl Tryz.ntmps84 rfl rfl ?_
 have hO0 := Own.init w
 refine run_seq <| run_region <| rl_v rfl rfl rfl (ov_assign rfl rfl) <| rl_nil <| run_seq <| run_region <| rl_v rfl rfl rfl (ov_assign rfl rfl) <| rl_nil <| run_seq <| run_seq <| run_region <| rl_v rfl rfl rfl (ov_assign rfl rfl) <| rl_nil <| run_block <| Run.keep [0, 1, 5, 6] (F' := [(0, _), (1, _), (5, _), (6, _)]) rfl <| run_loop2 (fun (k : Int) (s : Int) => [(6, .int .i64 k), (5, .int .i64 s)]) [0, 1] (fun (k : Int) (s : Int) (w1 : World) => 0 ≤ k ∧ k ≤ n ∧ s = sm (fun g => if l g = b then 1 else 0) k ∧ Own w.heap.size w w1 []) (fun (k : Int) (s : Int) => ((n : Int) - k).toNat) (0) (0) ?_ (And.intro (by exact slot_int rfl (by first | omega)) (And.intro (by exact slot_int rfl (by first | omega)) (And.intro rfl (And.intro rfl trivial)))) ?_
 ·exact ⟨by omega, by omega, rfl, hO0⟩
 intro k s w1 hIw1 ih2
 obtain ⟨hk0, hk1, hs, hO⟩ := hIw1
 show Run _ _ _ _ [(6, _), (5, _), (0, _), (1, _)] _ _
 have hs1 : s ≤ k * 1 := by rw [hs]; exact sm_bound 1 hk0 fun i _ _ => by split <;> omega
 have hs0 : 0 ≤ s := by rw [hs]; exact sm_nonneg fun i _ _ => by split <;> omega
 refine run_seq <| run_seq <| run_region <| rl_v rfl rfl rfl (ov_move rfl rfl) <| rl_v rfl rfl rfl (ov_move rfl rfl) <| rl_v rfl rfl rfl (ov_len rfl Tryz.underlying23 rfl) <| rl_v rfl rfl rfl (ov_lss rfl rfl rfl) <| rl_nil ?_
 first | refine run_cond_dec rfl (fun h1 => ?_) (fun h1 => ?_) | refine run_cond rfl (fun h1 => ?_) (fun h1 => ?_)
 ·have hsu := sm_succ (fun g => if l g = b then (1 : Int) else 0) hk0
  refine run_skip <| run_seq <| run_block <| run_seq <| run_region <| rl_v rfl rfl rfl (ov_move rfl rfl) <| rl_v rfl rfl rfl (ov_move rfl rfl) <| rl_v rfl rfl rfl (ov_index1 rfl Tryz.underlying23 (by kernel_rfl) rfl rfl ⟨by omega, by omega⟩ (by exact hga (by omega))) ?_
  refine rl_v rfl rfl rfl (ov_load rfl Tryz.underlying3 rfl rfl (by exact hrow _ hO.below _ (by omega) (by omega))) ?_
  refine rl_v rfl rfl rfl (ov_move rfl rfl) <| rl_v rfl rfl rfl (ov_eql rfl rfl rfl) <| rl_nil ?_
  first | refine run_cond_dec rfl (fun h2 => ?_) (fun h2 => ?_) | refine run_cond rfl (fun h2 => ?_) (fun h2 => ?_)
  ·refine run_region <| rl_v rfl rfl rfl (ov_move rfl rfl) <| rl_v rfl rfl rfl (ov_add rfl rfl rfl (by omega)) ?_
   refine rl_v rfl rfl rfl (ov_assign rfl rfl) <| rl_nil <| run_inBlock <| run_region <| rl_v rfl rfl rfl (ov_move rfl rfl) <| rl_v rfl rfl rfl (ov_add rfl rfl rfl (by omega)) ?_
   refine rl_v rfl rfl rfl (ov_assign rfl rfl) <| rl_nil ?_
   refine Run.use (ih2 (k + 1) (s + 1) _ ?_ ?_) (And.intro (by exact slot_int rfl (by first | omega)) (And.intro (by exact slot_int rfl (by first | omega)) (And.intro rfl (And.intro rfl trivial))))
   ·first | omega | (dsimp only; omega)
   ·exact ⟨by omega, by omega, by rw [hsu, if_pos h2, ← hs], hO⟩
  ·refine run_skip <| run_inBlock <| run_region <| rl_v rfl rfl rfl (ov_move rfl rfl) <| rl_v rfl rfl rfl (ov_add rfl rfl rfl (by omega)) ?_
   refine rl_v rfl rfl rfl (ov_assign rfl rfl) <| rl_nil ?_
   refine Run.use (ih2 (k + 1) (s) _ ?_ ?_) (And.intro (by exact slot_int rfl (by first | omega)) (And.intro (by exact slot_int rfl (by first | omega)) (And.intro rfl (And.intro rfl trivial))))
   ·first | omega | (dsimp only; omega)
   ·exact ⟨by omega, by omega, by rw [hsu, if_neg h2, ← hs]; omega, hO⟩
 ·obtain rfl : k = n := by omega
  refine run_exit rfl <| run_seq <| run_region <| rl_v rfl rfl rfl (ov_move rfl rfl) <| rl_v rfl rfl rfl (ov_assign rfl rfl) <| rl_nil <| run_ret Tryz.func84 (res1 Tryz.results84 rfl) ?_
  exact ⟨by rw [hs], hO.below⟩
theorem mutual5_any (ga ba qa : Option Addr) (gc bc qc nq : Nat) (f : Fair) (g b : Int) (w : World) (hlg : Lg5 f nq) (hF : FAg w.heap.size w ga ba qa f nq) (g0 : 0 ≤ g) (g1 : g < f.n) (b0 : 0 ≤ b) (b1 : b < f.m) :
  Calls Tryz.prog 83 #[.agg #[.slice ga f.n gc, .slice ba f.m bc, .slice qa nq qc], iv g, iv b] w fun e w' => e = .returned (.bool (decide (f.know g b))) ∧ Below w.heap.size w w' := by
 obtain ⟨A, C, RB, RO, gb, go, hga, hrow, hra, hel, hcan⟩ := hF.g.open
 obtain ⟨A', C', RB', RO', gb', go', hga', hrow', hra', hel', hcan'⟩ := hF.b.open
 refine calls_of_run (F := [(0, _), (1, _), (2, _)]) Tryz.func83 rfl Tryz.ntmps83 rfl rfl ?_
 have hO0 := Own.init w
 refine run_seq <| run_region <| rl_ow rfl (ow_box _ rfl rfl rfl rfl rfl hO0) ?_
 rintro _ w1 ⟨b3, rfl, hO2, hs3⟩
 refine rl_v rfl rfl rfl (ov_assign rfl rfl) <| rl_nil <| run_seq <| run_class (Cl5 w.heap.size w [some (lch b3 25 [.slice ga f.n gc, .slice ba f.m bc, .slice qa nq qc])]) (⟨hO2.drew⟩) mixed (by kernel_rfl) ?_
 refine rk_v rfl rfl rfl (fun wq hQ => ov_fieldS rfl Tryz.underlying25 rfl (fo := 0) rfl (by kernel_rfl) rfl) ?_
 refine rk_v rfl rfl rfl (fun wq hQ => ov_load rfl Tryz.underlying22 rfl rfl (by exact (hQ.own).cellL 0 rfl (off := 0) rfl)) ?_
 refine rk_v rfl rfl rfl (fun wq hQ => ov_move rfl rfl) ?_
 refine rk_v rfl rfl rfl (fun wq hQ => ov_index1 rfl Tryz.underlying22 (by kernel_rfl) rfl rfl ⟨by omega, by omega⟩ (by exact hga (by omega))) ?_
 refine rk_v rfl rfl rfl (fun wq hQ => ov_load rfl Tryz.underlying23 rfl rfl (by exact hrow _ (hQ.own).below _ (by omega) (by omega))) ?_
 refine rk_v rfl rfl rfl (fun wq hQ => ov_move rfl rfl) ?_
 refine rk_call callable_14 rfl rfl rfl rfl rfl rfl (fun wq hQ => (rank5_any (A g) (f.gl g) (C g) (f.ge g) b _ (hlg.gl g g0 g1) ((hQ.own).iatF (hcan g g0 g1))).mono fun _ _ h => ⟨h.1, ⟨(hQ.own).past h.2⟩⟩) ?_
 refine rk_v rfl rfl rfl (fun wq hQ => ov_fieldS rfl Tryz.underlying25 rfl (fo := 0) rfl (by kernel_rfl) rfl) ?_
 refine rk_v rfl rfl rfl (fun wq hQ => ov_load rfl Tryz.underlying22 rfl rfl (by exact (hQ.own).cellL 0 rfl (off := 0) rfl)) ?_
 refine rk_v rfl rfl rfl (fun wq hQ => ov_move rfl rfl) ?_
 refine rk_v rfl rfl rfl (fun wq hQ => ov_index1 rfl Tryz.underlying22 (by kernel_rfl) rfl rfl ⟨by omega, by omega⟩ (by exact hga (by omega))) ?_
 refine rk_v rfl rfl rfl (fun wq hQ => ov_load rfl Tryz.underlying23 rfl rfl (by exact hrow _ (hQ.own).below _ (by omega) (by omega))) ?_
 refine rk_v rfl rfl rfl (fun wq hQ => ov_len rfl Tryz.underlying23 rfl) ?_
 refine rk_v rfl rfl rfl (fun wq hQ => ov_lss rfl rfl rfl) ?_
 refine rk_v rfl rfl rfl (fun wq hQ => ov_move rfl rfl) ?_
 first | refine rk_split_dec 21 rfl (fun h1 => ?_) (fun h1 => ?_) | refine rk_split 21 rfl (fun h1 => ?_) (fun h1 => ?_)
 ·refine rk_gv rfl rfl rfl rfl rfl (fun wq hQ => ov_fieldS rfl Tryz.underlying25 rfl (fo := 1) rfl (by kernel_rfl) rfl) ?_
  refine rk_gv rfl rfl rfl rfl rfl (fun wq hQ => ov_load rfl Tryz.underlying22 rfl rfl (by exact (hQ.own).cellL 0 rfl (off := 1) rfl)) ?_
  refine rk_gv rfl rfl rfl rfl rfl (fun wq hQ => ov_move rfl rfl) ?_
  refine rk_gv rfl rfl rfl rfl rfl (fun wq hQ => ov_index1 rfl Tryz.underlying22 (by kernel_rfl) rfl rfl ⟨by omega, by omega⟩ (by exact hga' (by omega))) ?_
  refine rk_gv rfl rfl rfl rfl rfl (fun wq hQ => ov_load rfl Tryz.underlying23 rfl rfl (by exact hrow' _ (hQ.own).below _ (by omega) (by omega))) ?_
  refine rk_gv rfl rfl rfl rfl rfl (fun wq hQ => ov_move rfl rfl) ?_
  refine rk_gcall callable_14 rfl rfl rfl rfl rfl rfl rfl rfl (fun wq hQ => (rank5_any (A' b) (f.bl b) (C' b) (f.be b) g _ (hlg.bl b b0 b1) ((hQ.own).iatF (hcan' b b0 b1))).mono fun _ _ h => ⟨h.1, ⟨(hQ.own).past h.2⟩⟩) ?_
  refine rk_gv rfl rfl rfl rfl rfl (fun wq hQ => ov_fieldS rfl Tryz.underlying25 rfl (fo := 1) rfl (by kernel_rfl) rfl) ?_
  refine rk_gv rfl rfl rfl rfl rfl (fun wq hQ => ov_load rfl Tryz.underlying22 rfl rfl (by exact (hQ.own).cellL 0 rfl (off := 1) rfl)) ?_
  refine rk_gv rfl rfl rfl rfl rfl (fun wq hQ => ov_move rfl rfl) ?_
  refine rk_gv rfl rfl rfl rfl rfl (fun wq hQ => ov_index1 rfl Tryz.underlying22 (by kernel_rfl) rfl rfl ⟨by omega, by omega⟩ (by exact hga' (by omega))) ?_
  refine rk_gv rfl rfl rfl rfl rfl (fun wq hQ => ov_load rfl Tryz.underlying23 rfl rfl (by exact hrow' _ (hQ.own).below _ (by omega) (by omega))) ?_
  refine rk_gv rfl rfl rfl rfl rfl (fun wq hQ => ov_len rfl Tryz.underlying23 rfl) ?_
  refine rk_gv rfl rfl rfl rfl rfl (fun wq hQ => ov_lss rfl rfl rfl) ?_
  refine rk_v rfl rfl rfl (fun wq hQ => ov_pick_t rfl rfl rfl) ?_
  refine rk_v rfl rfl rfl (fun wq hQ => ov_assign rfl rfl) ?_
  refine rk_nil (fun w11 hQ => ?_)
  refine run_ret Tryz.func83 (res1 Tryz.results83 rfl) ?_
  exact ⟨congrArg (fun x => Ending.returned (.bool x)) (decide_eq_decide.2 ⟨fun h2 => ⟨h1, h2⟩, And.right⟩), (hQ.own).tail.below⟩
 ·refine rk_gskip rfl rfl rfl rfl rfl rfl <| rk_gskip rfl rfl rfl rfl rfl rfl <| rk_gskip rfl rfl rfl rfl rfl rfl <| rk_gskip rfl rfl rfl rfl rfl rfl <| rk_gskip rfl rfl rfl rfl rfl rfl <| rk_gskip rfl rfl rfl rfl rfl rfl <| rk_gskip rfl rfl rfl rfl rfl rfl <| rk_gskip rfl rfl rfl rfl rfl rfl <| rk_gskip rfl rfl rfl rfl rfl rfl <| rk_gskip rfl rfl rfl rfl rfl rfl <| rk_gskip rfl rfl rfl rfl rfl rfl <| rk_gskip rfl rfl rfl rfl rfl rfl <| rk_gskip rfl rfl rfl rfl rfl rfl <| rk_gskip rfl rfl rfl rfl rfl rfl <| rk_v rfl rfl rfl (fun wq hQ => ov_pick_f rfl rfl rfl) ?_
  refine rk_v rfl rfl rfl (fun wq hQ => ov_assign rfl rfl) ?_
  refine rk_nil (fun w12 hQ => ?_)
  refine run_ret Tryz.func83 (res1 Tryz.results83 rfl) ?_
  exact ⟨congrArg (fun x => Ending.returned (.bool x)) (decide_eq_false fun h => h1 h.1).symm, (hQ.own).tail.below⟩
end Go.Proofs.YtlldeifbfpmbaaaGreat
