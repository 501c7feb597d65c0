import Derived.Test.YtbcjfjldmfljgaaGreatPrN
set_option maxRecDepth 100000
namespace Go.Proofs.YtbcjfjldmfljgaaGreat
open Go.RowKit Go.Proofs Go.MapKept
theorem notWorthS_any (x : Int) (w : World) (hx : W9 x) : Calls Tryz.prog 28 #[iv x] w fun e w' => e = .returned (.bool false) ∧ Own w.heap.size w w' [] := by
 refine calls_of_run (F := [(0, _)]) Tryz.func28 rfl Tryz.ntmps28 rfl rfl ?_
 have hO0 := Own.init w
 refine run_seq <| run_region <| rl_v rfl rfl rfl (ov_assign rfl rfl) <| rl_nil <| run_seq <| run_region <| rl_v rfl rfl rfl (ov_move rfl rfl) ?_
 refine rl_call callable_13 rfl rfl rfl rfl rfl rfl (isWorthH_any x _ hx) (fun e1 w2 hp3 => ?_)
 obtain ⟨rfl, hOa⟩ := hp3
 refine ⟨_, rfl, ?_⟩
 have hO4 := hO0.join hOa
 refine rl_v rfl rfl rfl (ov_not rfl rfl) <| rl_v rfl rfl rfl (ov_assign rfl rfl) <| rl_nil <| run_ret Tryz.func28 (res1 Tryz.results28 rfl) ?_
 exact ⟨rfl, hO4⟩
theorem indexS_any (ao : Option Addr) (n c : Nat) (q : Int → Int) (w : World) (hn : n ≤ 1000) (h : IAt w.heap.size w ao n (fun i => iv (q i))) (hq : ∀ i : Int, 0 ≤ i → i < n → W9 (q i)) :
  Calls Tryz.prog 31 #[.slice ao n c, .func (.func 28) #[] #[]] w fun e w' => e = .returned (iv (-1)) ∧ Own w.heap.size w w' [] := by
 obtain ⟨gb, go, hga, hrow⟩ := h.open
 refine calls_of_run (F := [(0, _), (1, _)]) Tryz.func31 rfl Tryz.ntmps31 rfl rfl ?_
 have hO0 := Own.init w
 refine run_seq <| run_region <| rl_v rfl rfl rfl (ov_assign rfl rfl) <| rl_nil <| run_seq <| run_seq <| run_region <| rl_v rfl rfl rfl (ov_move rfl rfl) <| rl_v rfl rfl rfl (ov_len rfl Tryz.underlying22 rfl) <| rl_v rfl rfl rfl (ov_move rfl rfl) <| rl_nil <| run_block <| Run.keep [0, 1, 7, 8] (F' := [(0, _), (1, _), (7, _), (8, _)]) rfl <| run_loop1 (fun (k : Nat) => [(8, .int .i64 (k : Int))]) [0, 1, 7] (fun (k : Nat) (w1 : World) => k ≤ n ∧ Own w.heap.size w w1 []) (fun (k : Nat) => n - k) (0) ?_ (And.intro (by exact slot_int rfl (by first | omega)) (And.intro rfl (And.intro rfl (And.intro rfl trivial)))) ?_
 ·exact ⟨Nat.zero_le _, hO0⟩
 intro k w1 hIw1 ih2
 obtain ⟨hk, hO⟩ := hIw1
 show Run _ _ _ _ [(8, _), (0, _), (1, _), (7, _)] _ _
 refine run_seq <| run_region <| rl_v rfl rfl rfl (ov_lss rfl rfl rfl) <| rl_nil <| run_seq ?_
 first | refine run_cond_dec rfl (fun h1 => ?_) (fun h1 => ?_) | refine run_cond rfl (fun h1 => ?_) (fun h1 => ?_)
 ·refine run_skip <| run_seq <| run_block <| run_seq <| run_region <| rl_v rfl rfl rfl (ov_move rfl rfl) <| rl_v rfl rfl rfl (ov_assign rfl rfl) <| rl_nil <| run_seq <| run_region <| rl_v rfl rfl rfl (ov_move rfl rfl) <| rl_v rfl rfl rfl (ov_move rfl rfl) <| rl_v rfl rfl rfl (ov_move rfl rfl) <| rl_v rfl rfl rfl (ov_index1 rfl Tryz.underlying22 (by kernel_rfl) rfl rfl ⟨by omega, by omega⟩ (by exact hga (by omega))) ?_
  refine rl_v rfl rfl rfl (ov_load rfl Tryz.underlying2 rfl rfl (by exact hrow _ hO.below k (by omega) h1)) ?_
  refine rl_call callable_28 rfl rfl rfl rfl rfl rfl (notWorthS_any (q k) _ (hq k (by omega) h1)) (fun e3 w4 hp5 => ?_)
  obtain ⟨rfl, hbl⟩ := hp5
  refine ⟨_, rfl, ?_⟩
  have hO6 := hO.join hbl
  refine rl_nil ?_
  first | refine run_cond_dec rfl (fun h2 => ?_) (fun h2 => ?_) | refine run_cond rfl (fun h2 => ?_) (fun h2 => ?_)
  ·exfalso; (exact Bool.noConfusion h2)
  ·refine run_skip <| run_inBlock <| run_region <| rl_v rfl rfl rfl (ov_add rfl rfl rfl (by omega)) ?_
   refine rl_v rfl rfl rfl (ov_move rfl rfl) <| rl_nil ?_
   refine Run.use (ih2 (k + 1) _ ?_ ?_) (And.intro (by exact slot_int rfl (by first | omega)) (And.intro rfl (And.intro rfl (And.intro rfl trivial))))
   ·first | omega | (dsimp only; omega)
   ·exact ⟨by omega, hO6⟩
 ·refine run_exit rfl <| run_seq <| run_region <| rl_v rfl rfl rfl (ov_assign rfl rfl) <| rl_nil <| run_ret Tryz.func31 (res1 Tryz.results31 rfl) ?_
  exact ⟨rfl, hO⟩
theorem containsS_any (ao : Option Addr) (n c : Nat) (q : Int → Int) (w : World) (hn : n ≤ 1000) (h : IAt w.heap.size w ao n (fun i => iv (q i))) (hq : ∀ i : Int, 0 ≤ i → i < n → W9 (q i)) :
  Calls Tryz.prog 11 #[.slice ao n c, .func (.func 28) #[] #[]] w fun e w' => e = .returned (.bool false) ∧ Own w.heap.size w w' [] := by
 refine calls_of_run (F := [(0, _), (1, _)]) Tryz.func11 rfl Tryz.ntmps11 rfl rfl ?_
 have hO0 := Own.init w
 refine run_seq <| run_region <| rl_v rfl rfl rfl (ov_assign rfl rfl) <| rl_nil <| run_seq <| run_region <| rl_v rfl rfl rfl (ov_move rfl rfl) <| rl_v rfl rfl rfl (ov_move rfl rfl) ?_
 refine rl_call callable_31 rfl rfl rfl rfl rfl rfl (indexS_any ao n c q _ hn h hq) (fun e1 w2 hp3 => ?_)
 obtain ⟨rfl, hbl⟩ := hp3
 refine ⟨_, rfl, ?_⟩
 have hO4 := hO0.join hbl
 refine rl_v rfl rfl rfl (ov_geq rfl rfl rfl) <| rl_v rfl rfl rfl (ov_assign rfl rfl) <| rl_nil <| run_ret Tryz.func11 (res1 Tryz.results11 rfl) ?_
 exact ⟨rfl, hO4⟩
def secV (i : Int) : Int := if i = 0 then 3 else 9
theorem maxS_any (la : Option Addr) (lc : Nat) (w : World) (hl : IAt w.heap.size w la 3 (fun i => iv (secV i))) :
  Calls Tryz.prog 29 #[.slice la 3 lc] w fun e w' => e = .returned (iv 9) ∧ Own w.heap.size w w' [] := by
 obtain ⟨lb, lo, hla, hlr⟩ := hl.open
 refine calls_of_run (F := [(0, _)]) Tryz.func29 rfl Tryz.ntmps29 rfl rfl ?_
 have hO0 := Own.init w
 refine run_seq <| run_region <| rl_v rfl rfl rfl (ov_assign rfl rfl) <| rl_nil <| run_seq <| run_seq <| run_region <| rl_v rfl rfl rfl (ov_move rfl rfl) <| rl_v rfl rfl rfl (ov_len rfl Tryz.underlying22 rfl) <| rl_v rfl rfl rfl (ov_lss rfl rfl rfl) <| rl_nil ?_
 first | refine run_cond_dec rfl (fun c1 => ?_) (fun c1 => ?_) | refine run_cond rfl (fun c1 => ?_) (fun c1 => ?_)
 ·exfalso; omega
 ·refine run_skip <| run_seq <| run_region <| rl_v rfl rfl rfl (ov_move rfl rfl) <| rl_v rfl rfl rfl (ov_index1 rfl Tryz.underlying22 (by kernel_rfl) rfl rfl ⟨by omega, by omega⟩ (by exact hla (by omega))) ?_
  refine rl_v rfl rfl rfl (ov_load rfl Tryz.underlying2 rfl rfl (by exact hlr _ hO0.below 0 (by omega) (by omega))) ?_
  refine rl_v rfl rfl rfl (ov_assign rfl rfl) <| rl_nil <| run_seq <| run_seq <| run_region <| rl_v rfl rfl rfl (ov_assign rfl rfl) <| rl_nil <| run_block <| Run.keep [0, 3, 4] (F' := [(0, _), (3, _), (4, _)]) rfl <| run_loop2 (fun (i : Nat) (m : Int) => [(4, .int .i64 (i : Int)), (3, .int .i64 m)]) [0] (fun (i : Nat) (m : Int) (w1 : World) => (1 ≤ i ∧ i ≤ 3) ∧ m = (if i = 1 then 3 else 9) ∧ Own w.heap.size w w1 []) (fun (i : Nat) (m : Int) => 3 - i) (1) (3) ?_ (And.intro (by exact slot_int rfl (by first | omega)) (And.intro (by rfl) (And.intro rfl trivial))) ?_
  ·exact ⟨by omega, rfl, hO0⟩
  intro i m w1 hIw1 ih2
  obtain ⟨hi, hm, hO1⟩ := hIw1
  show Run _ _ _ _ [(4, _), (3, _), (0, _)] _ _
  refine run_seq <| run_seq <| run_region <| rl_v rfl rfl rfl (ov_move rfl rfl) <| rl_v rfl rfl rfl (ov_move rfl rfl) <| rl_v rfl rfl rfl (ov_len rfl Tryz.underlying22 rfl) <| rl_v rfl rfl rfl (ov_lss rfl rfl rfl) <| rl_nil ?_
  first | refine run_cond_dec rfl (fun c2 => ?_) (fun c2 => ?_) | refine run_cond rfl (fun c2 => ?_) (fun c2 => ?_)
  ·have hs : secV i = 9 := if_neg (by omega)
   refine run_skip <| run_seq <| run_block <| run_region <| rl_v rfl rfl rfl (ov_move rfl rfl) <| rl_v rfl rfl rfl (ov_move rfl rfl) <| rl_v rfl rfl rfl (ov_move rfl rfl) <| rl_v rfl rfl rfl (ov_index1 rfl Tryz.underlying22 (by kernel_rfl) rfl rfl ⟨by omega, by omega⟩ (by exact hla (by omega))) ?_
   refine rl_v rfl rfl rfl (ov_load rfl Tryz.underlying2 rfl rfl (by exact hlr _ hO1.below i (by omega) c2)) ?_
   refine rl_v rfl rfl rfl (ov_max rfl rfl rfl) <| rl_v rfl rfl rfl (ov_assign rfl rfl) <| rl_nil <| run_inBlock <| run_region <| rl_v rfl rfl rfl (ov_move rfl rfl) <| rl_v rfl rfl rfl (ov_add rfl rfl rfl (by omega)) ?_
   refine rl_v rfl rfl rfl (ov_assign rfl rfl) <| rl_nil ?_
   refine Run.use (ih2 (i + 1) (max m (secV i)) _ ?_ ?_) (And.intro (by exact slot_int rfl (by first | omega)) (And.intro (by exact slot_int rfl (by first | omega)) (And.intro rfl trivial)))
   ·first | omega | (dsimp only; omega)
   ·exact ⟨by omega, by rw [hs, if_neg (by omega)]; split at hm <;> omega, hO1⟩
  ·have hi3 : i = 3 := by omega
   subst hi3
   refine run_exit rfl <| run_seq <| run_region <| rl_v rfl rfl rfl (ov_move rfl rfl) <| rl_v rfl rfl rfl (ov_assign rfl rfl) <| rl_nil <| run_ret Tryz.func29 (res1 Tryz.results29 rfl) ?_
   exact ⟨by rw [hm]; rfl, hO1⟩
theorem indexI_any (la : Option Addr) (lc : Nat) (w : World) (hl : IAt w.heap.size w la 3 (fun i => iv (secV i))) :
  Calls Tryz.prog 30 #[.slice la 3 lc, iv 9] w fun e w' => e = .returned (iv 1) ∧ Own w.heap.size w w' [] := by
 obtain ⟨lb, lo, hla, hlr⟩ := hl.open
 refine calls_of_run (F := [(0, _), (1, _)]) Tryz.func30 rfl Tryz.ntmps30 rfl rfl ?_
 have hO0 := Own.init w
 refine run_seq <| run_region <| rl_v rfl rfl rfl (ov_assign rfl rfl) <| rl_nil <| run_seq <| run_seq <| run_region <| rl_v rfl rfl rfl (ov_move rfl rfl) <| rl_v rfl rfl rfl (ov_len rfl Tryz.underlying22 rfl) <| rl_v rfl rfl rfl (ov_move rfl rfl) <| rl_nil <| run_block <| Run.keep [0, 1, 7, 8] (F' := [(0, _), (1, _), (7, _), (8, _)]) rfl <| run_loop1 (fun (i : Nat) => [(8, .int .i64 (i : Int))]) [0, 1, 7] (fun (i : Nat) (w1 : World) => i ≤ 1 ∧ Own w.heap.size w w1 []) (fun (i : Nat) => 3 - i) (0) ?_ (And.intro (by exact slot_int rfl (by first | omega)) (And.intro rfl (And.intro rfl (And.intro rfl trivial)))) ?_
 ·exact ⟨by omega, hO0⟩
 intro i w1 hIw1 ih2
 obtain ⟨hi, hO1⟩ := hIw1
 show Run _ _ _ _ [(8, _), (0, _), (1, _), (7, _)] _ _
 refine run_seq <| run_region <| rl_v rfl rfl rfl (ov_lss rfl rfl rfl) <| rl_nil <| run_seq ?_
 first | refine run_cond_dec rfl (fun c2 => ?_) (fun c2 => ?_) | refine run_cond rfl (fun c2 => ?_) (fun c2 => ?_)
 ·refine run_skip <| run_seq <| run_block <| run_seq <| run_region <| rl_v rfl rfl rfl (ov_move rfl rfl) <| rl_v rfl rfl rfl (ov_assign rfl rfl) <| rl_nil <| run_seq <| run_region <| rl_v rfl rfl rfl (ov_move rfl rfl) <| rl_v rfl rfl rfl (ov_move rfl rfl) <| rl_v rfl rfl rfl (ov_move rfl rfl) <| rl_v rfl rfl rfl (ov_index1 rfl Tryz.underlying22 (by kernel_rfl) rfl rfl ⟨by omega, by omega⟩ (by exact hla (by omega))) ?_
  refine rl_v rfl rfl rfl (ov_load rfl Tryz.underlying2 rfl rfl (by exact hlr _ hO1.below i (by omega) c2)) ?_
  refine rl_v rfl rfl rfl (ov_eql rfl rfl rfl) <| rl_nil ?_
  first | refine run_cond_dec rfl (fun c3 => ?_) (fun c3 => ?_) | refine run_cond rfl (fun c3 => ?_) (fun c3 => ?_)
  ·have hi1 : i = 1 := by unfold secV at c3; split at c3 <;> omega
   subst hi1
   refine run_seq <| run_region <| rl_v rfl rfl rfl (ov_move rfl rfl) <| rl_v rfl rfl rfl (ov_assign rfl rfl) <| rl_nil <| run_ret Tryz.func30 (res1 Tryz.results30 rfl) ?_
   exact ⟨rfl, hO1⟩
  ·have hi0 : i = 0 := by unfold secV at c3; split at c3 <;> omega
   refine run_skip <| run_inBlock <| run_region <| rl_v rfl rfl rfl (ov_add rfl rfl rfl (by omega)) ?_
   refine rl_v rfl rfl rfl (ov_move rfl rfl) <| rl_nil ?_
   refine Run.use (ih2 (i + 1) _ ?_ ?_) (And.intro (by exact slot_int rfl (by first | omega)) (And.intro rfl (And.intro rfl (And.intro rfl trivial))))
   ·first | omega | (dsimp only; omega)
   ·exact ⟨by omega, hO1⟩
 ·exfalso; omega
theorem second_any (la : Option Addr) (lc : Nat) (w : World) (hl : IAt w.heap.size w la 3 (fun i => iv (secV i))) :
  Calls Tryz.prog 10 #[.slice la 3 lc, iv 4] w fun e w' => e = .returned (.tuple #[iv 1, iv 9, iv 0]) ∧ Own w.heap.size w w' [] := by
 obtain ⟨lb, lo, hla, hlr⟩ := hl.open
 refine calls_of_run (F := [(0, _), (1, _)]) Tryz.func10 rfl Tryz.ntmps10 rfl rfl ?_
 have hO0 := Own.init w
 refine run_seq <| run_region <| rl_v rfl rfl rfl (ov_assign rfl rfl) <| rl_v rfl rfl rfl (ov_assign rfl rfl) <| rl_v rfl rfl rfl (ov_assign rfl rfl) <| rl_nil <| run_seq <| run_seq <| run_region <| rl_v rfl rfl rfl (ov_move rfl rfl) <| rl_v rfl rfl rfl (ov_len rfl Tryz.underlying22 rfl) <| rl_v rfl rfl rfl (ov_gtr rfl rfl rfl) <| rl_nil ?_
 first | refine run_cond_dec rfl (fun c1 => ?_) (fun c1 => ?_) | refine run_cond rfl (fun c1 => ?_) (fun c1 => ?_)
 ·exfalso; omega
 ·refine run_skip <| run_seq <| run_seq <| run_region <| rl_v rfl rfl rfl (ov_move rfl rfl) ?_
  refine rl_call callable_13 rfl rfl rfl rfl rfl rfl (isWorthH_any 4 _ (by unfold W9; decide)) (fun e1 w2 hp3 => ?_)
  obtain ⟨rfl, hOa⟩ := hp3
  refine ⟨_, rfl, ?_⟩
  have hO4 := hO0.join hOa
  refine rl_v rfl rfl rfl (ov_not rfl rfl) <| rl_v rfl rfl rfl (ov_move rfl rfl) ?_
  first | refine rl_noD 15 rfl (rfl) ?_ | refine rl_no 15 rfl (rfl) ?_
  refine rl_gv rfl rfl rfl rfl rfl (ov_move rfl rfl) ?_
  refine rl_gcall callable_11 rfl rfl rfl rfl rfl rfl rfl rfl (containsS_any la 3 lc secV _ (by decide) (hO4.iatU hl) (fun i _ _ => by unfold W9 secV; split <;> decide)) (fun e5 w6 hp7 => ?_)
  obtain ⟨rfl, hOb⟩ := hp7
  refine ⟨_, rfl, ?_⟩
  have hO8 := hO4.join hOb
  refine rl_v rfl rfl rfl (ov_pick_f rfl rfl rfl) <| rl_nil ?_
  first | refine run_cond_dec rfl (fun c2 => ?_) (fun c2 => ?_) | refine run_cond rfl (fun c2 => ?_) (fun c2 => ?_)
  ·exfalso; (exact Bool.noConfusion c2)
  ·refine run_skip <| run_seq <| run_seq <| run_region <| rl_v rfl rfl rfl (ov_move rfl rfl) <| rl_v rfl rfl rfl (ov_len rfl Tryz.underlying22 rfl) <| rl_v rfl rfl rfl (ov_eql rfl rfl rfl) <| rl_v rfl rfl rfl (ov_move rfl rfl) ?_
   first | refine rl_noD 22 rfl ((by decide)) ?_ | refine rl_no 22 rfl ((by decide)) ?_
   refine rl_gv rfl rfl rfl rfl rfl (ov_move rfl rfl) ?_
   refine rl_gcall callable_29 rfl rfl rfl rfl rfl rfl rfl rfl (maxS_any la lc _ (hO8.iatU hl)) (fun e9 w10 hp11 => ?_)
   obtain ⟨rfl, hOc⟩ := hp11
   refine ⟨_, rfl, ?_⟩
   have hO12 := hO8.join hOc
   refine rl_gv rfl rfl rfl rfl rfl (ov_move rfl rfl) <| rl_gv rfl rfl rfl rfl rfl (ov_lss rfl rfl rfl) <| rl_v rfl rfl rfl (ov_pick_f rfl rfl rfl) <| rl_nil ?_
   first | refine run_cond_dec rfl (fun c3 => ?_) (fun c3 => ?_) | refine run_cond rfl (fun c3 => ?_) (fun c3 => ?_)
   ·exfalso; omega
   ·refine run_skip <| run_seq <| run_region <| rl_v rfl rfl rfl (ov_move rfl rfl) <| rl_v rfl rfl rfl (ov_move rfl rfl) ?_
    refine rl_call callable_29 rfl rfl rfl rfl rfl rfl (maxS_any la lc _ (hO12.iatU hl)) (fun e13 w14 hp15 => ?_)
    obtain ⟨rfl, hOd⟩ := hp15
    refine ⟨_, rfl, ?_⟩
    have hO16 := hO12.join hOd
    refine rl_call callable_30 rfl rfl rfl rfl rfl rfl (indexI_any la lc _ (hO16.iatU hl)) (fun e17 w18 hp19 => ?_)
    obtain ⟨rfl, hOe⟩ := hp19
    refine ⟨_, rfl, ?_⟩
    have hO20 := hO16.join hOe
    refine rl_v rfl rfl rfl (ov_move rfl rfl) <| rl_v rfl rfl rfl (ov_assign rfl rfl) <| rl_v rfl rfl rfl (ov_assign rfl rfl) <| rl_nil <| run_seq <| run_seq <| run_region <| rl_v rfl rfl rfl (ov_move rfl rfl) <| rl_v rfl rfl rfl (ov_len rfl Tryz.underlying22 rfl) <| rl_v rfl rfl rfl (ov_move rfl rfl) <| rl_nil <| run_block <| Run.keep [4, 5, 33, 34, 35] (F' := [(4, _), (5, _), (33, _), (34, _), (35, _)]) rfl <| run_loop2 (fun (i : Nat) (p : Int) => [(35, .int .i64 (i : Int)), (5, .int .i64 p)]) [4, 33, 34] (fun (i : Nat) (p : Int) (w21 : World) => i ≤ 3 ∧ p = (if i ≤ 2 then 4 else 9) ∧ Own w.heap.size w w21 []) (fun (i : Nat) (p : Int) => 3 - i) (0) (4) ?_ (And.intro (by exact slot_int rfl (by first | omega)) (And.intro (by exact slot_int rfl (by first | omega)) (And.intro rfl (And.intro rfl (And.intro rfl trivial))))) ?_
    ·exact ⟨by omega, rfl, hO20⟩
    intro i p w21 hIw21 ih22
    obtain ⟨hi, hp, hO1⟩ := hIw21
    show Run _ _ _ _ [(35, _), (5, _), (4, _), (33, _), (34, _)] _ _
    refine run_seq <| run_region <| rl_v rfl rfl rfl (ov_lss rfl rfl rfl) <| rl_nil <| run_seq ?_
    first | refine run_cond_dec rfl (fun c4 => ?_) (fun c4 => ?_) | refine run_cond rfl (fun c4 => ?_) (fun c4 => ?_)
    ·refine run_skip <| run_seq <| run_block <| run_seq <| run_region <| rl_v rfl rfl rfl (ov_move rfl rfl) <| rl_v rfl rfl rfl (ov_index1 rfl Tryz.underlying22 (by kernel_rfl) rfl rfl ⟨by omega, by omega⟩ (by exact hla (by omega))) ?_
     refine rl_v rfl rfl rfl (ov_load rfl Tryz.underlying2 rfl rfl (by exact hlr _ hO1.below i (by omega) c4)) ?_
     refine rl_v rfl rfl rfl (ov_assign rfl rfl) <| rl_v rfl rfl rfl (ov_assign rfl rfl) <| rl_nil <| run_seq <| run_region <| rl_v rfl rfl rfl (ov_move rfl rfl) <| rl_v rfl rfl rfl (ov_move rfl rfl) <| rl_v rfl rfl rfl (ov_neq rfl rfl rfl) <| rl_nil ?_
     first | refine run_cond_dec rfl (fun c5 => ?_) (fun c5 => ?_) | refine run_cond rfl (fun c5 => ?_) (fun c5 => ?_)
     ·have hs : secV i = if i = 0 then 3 else 9 := by unfold secV; split <;> split <;> omega
      refine run_region <| rl_v rfl rfl rfl (ov_move rfl rfl) <| rl_v rfl rfl rfl (ov_move rfl rfl) <| rl_v rfl rfl rfl (ov_max rfl rfl rfl) <| rl_v rfl rfl rfl (ov_assign rfl rfl) <| rl_nil <| run_inBlock <| run_region <| rl_v rfl rfl rfl (ov_add rfl rfl rfl (by omega)) ?_
      refine rl_v rfl rfl rfl (ov_move rfl rfl) <| rl_nil ?_
      refine Run.use (ih22 (i + 1) (max p (secV i)) _ ?_ ?_) (And.intro (by exact slot_int rfl (by first | omega)) (And.intro (by exact slot_int rfl (by first | omega)) (And.intro rfl (And.intro rfl (And.intro rfl trivial)))))
      ·first | omega | (dsimp only; omega)
      ·exact ⟨by omega, by rw [hs, hp]; by_cases e : i = 0; (rw [e]; rfl); (have e2 : i = 2 := by omega); (rw [e2]; rfl), hO1⟩
     ·refine run_skip <| run_inBlock <| run_region <| rl_v rfl rfl rfl (ov_add rfl rfl rfl (by omega)) ?_
      refine rl_v rfl rfl rfl (ov_move rfl rfl) <| rl_nil ?_
      refine Run.use (ih22 (i + 1) (p) _ ?_ ?_) (And.intro (by exact slot_int rfl (by first | omega)) (And.intro (by exact slot_int rfl (by first | omega)) (And.intro rfl (And.intro rfl (And.intro rfl trivial)))))
      ·first | omega | (dsimp only; omega)
      ·exact ⟨by omega, by rw [hp, if_pos (by omega), if_pos (by omega)], hO1⟩
    ·have hi3 : i = 3 := by omega
     subst hi3
     refine run_exit rfl <| run_seq <| run_region <| rl_v rfl rfl rfl (ov_move rfl rfl) <| rl_v rfl rfl rfl (ov_move rfl rfl) <| rl_v rfl rfl rfl (ov_assign rfl rfl) <| rl_v rfl rfl rfl (ov_assign rfl rfl) <| rl_v rfl rfl rfl (ov_assign rfl rfl) <| rl_nil <| run_ret Tryz.func10 (res3 Tryz.results10 rfl rfl rfl) ?_
     exact ⟨by rw [hp]; rfl, hO1⟩
def uV (i : Int) : Int := if i = 0 then 5 else if i = 1 then 7 else 6
theorem uV_rng (i : Int) : 5 ≤ uV i ∧ uV i ≤ 7 := by unfold uV; split; decide; split <;> decide
theorem uV_pri {Z : Int → Int} (h : Bds 3 uV Z) : pri 3 2 uV Z = 5 := by
 have h1 := h.dn 0 1 (by decide) (by decide) (by decide)
 have h2 := h.dn 1 2 (by decide) (by decide) (by decide)
 have r0 := uV_rng (Z 0)
 have r2 := uV_rng (Z 2)
 show uV (Z 2) = 5
 omega
theorem four_any (w : World) : Calls Tryz.prog 5 #[] w fun e w' => e = .returned (.bool true) ∧ Own w.heap.size w w' [] := by
 refine calls_of_run (F := []) Tryz.func5 rfl Tryz.ntmps5 rfl rfl ?_
 have hO0 := Own.init w
 refine run_seq <| run_region <| rl_v rfl rfl rfl (ov_assign rfl rfl) <| rl_nil <| run_seq <| run_region <| rl_ow rfl (ow_build1 [_, _, _] rfl rfl rfl rfl rfl Tryz.underlying22 info_2 (by decide) hO0 rfl rfl) ?_
 rintro _ w1 ⟨b8, rfl, hO2, hs3⟩
 have hI8 : IAt w1.heap.size w1 (some ⟨b8, 0, none⟩) 3 (fun i => iv (uV i)) := (hO2.readsI 0 rfl).congr fun i i0 i1 => by
  have : i = 0 ∨ i = 1 ∨ i = 2 := by omega
  rcases this with e | e | e <;> subst e <;> rfl
 refine rl_call callable_6 rfl rfl rfl rfl rfl rfl (uniform_any (some ⟨b8, 0, none⟩) 3 3 2 uV _ (by decide) (by decide) (fun i _ _ => by have := uV_rng i; omega) (fun a b a0 a1 b0 b1 e => by unfold uV at e; split at e <;> split at e <;> omega) hI8) (fun e4 w5 hp6 => ?_)
 obtain ⟨Z, I, wa, m, mc, c, rfl, hB, hm, _, _, _, hOa⟩ := hp6
 refine ⟨_, rfl, ?_⟩
 have hO7 := hO2.join hOa
 have hp5 := uV_pri hB
 have hm2 : m = 2 := by omega
 refine rl_v rfl rfl rfl (ov_move rfl rfl) <| rl_v rfl rfl rfl (ov_extract rfl rfl (by rfl)) ?_
 refine rl_v rfl rfl rfl (ov_extract rfl rfl (by rfl)) ?_
 refine rl_v rfl rfl rfl (ov_extract rfl rfl (by rfl)) ?_
 refine rl_v rfl rfl rfl (ov_assign rfl rfl) <| rl_v rfl rfl rfl (ov_assign rfl rfl) <| rl_v rfl rfl rfl (ov_assign rfl rfl) <| rl_nil <| run_seq <| run_region <| rl_ow rfl (ow_build1 [_, _, _] rfl rfl rfl rfl rfl Tryz.underlying22 info_2 (by decide) hO7 rfl rfl) ?_
 rintro _ w8 ⟨b14, rfl, hO9, hs10⟩
 have hI14 : IAt w8.heap.size w8 (some ⟨b14, 0, none⟩) 3 (fun i => iv (secV i)) := (hO9.readsI 0 rfl).congr fun i i0 i1 => by
  have : i = 0 ∨ i = 1 ∨ i = 2 := by omega
  rcases this with e | e | e <;> subst e <;> rfl
 refine rl_call callable_10 rfl rfl rfl rfl rfl rfl (second_any (some ⟨b14, 0, none⟩) 3 _ hI14) (fun e11 w12 hp13 => ?_)
 obtain ⟨rfl, hOb⟩ := hp13
 refine ⟨_, rfl, ?_⟩
 have hO14 := hO9.join hOb
 refine rl_v rfl rfl rfl (ov_move rfl rfl) <| rl_v rfl rfl rfl (ov_extract rfl rfl (by rfl)) ?_
 refine rl_v rfl rfl rfl (ov_extract rfl rfl (by rfl)) ?_
 refine rl_v rfl rfl rfl (ov_extract rfl rfl (by rfl)) ?_
 refine rl_v rfl rfl rfl (ov_assign rfl rfl) <| rl_v rfl rfl rfl (ov_assign rfl rfl) <| rl_v rfl rfl rfl (ov_assign rfl rfl) <| rl_nil <| run_seq <| run_region <| rl_v rfl rfl rfl (ov_move rfl rfl) <| rl_v rfl rfl rfl (ov_eql rfl rfl rfl) <| rl_v rfl rfl rfl (ov_move rfl rfl) ?_
 first | refine rl_yesD 21 rfl (rfl) ?_ | refine rl_yes 21 rfl (rfl) ?_
 refine rl_gv rfl rfl rfl rfl rfl (ov_move rfl rfl) <| rl_gv rfl rfl rfl rfl rfl (ov_eql rfl rfl rfl) <| rl_v rfl rfl rfl (ov_pick_t rfl rfl rfl) <| rl_v rfl rfl rfl (ov_move rfl rfl) ?_
 first | refine rl_yesD 25 rfl (rfl) ?_ | refine rl_yes 25 rfl (rfl) ?_
 refine rl_gv rfl rfl rfl rfl rfl (ov_move rfl rfl) <| rl_gv rfl rfl rfl rfl rfl (ov_eql rfl rfl rfl) <| rl_v rfl rfl rfl (ov_pick_t rfl rfl rfl) <| rl_v rfl rfl rfl (ov_move rfl rfl) ?_
 first | refine rl_yesD 29 rfl (hp5) ?_ | refine rl_yes 29 rfl (hp5) ?_
 refine rl_gv rfl rfl rfl rfl rfl (ov_move rfl rfl) <| rl_gv rfl rfl rfl rfl rfl (ov_len rfl Tryz.underlying30 rfl) <| rl_gv rfl rfl rfl rfl rfl (ov_eql rfl rfl rfl) <| rl_v rfl rfl rfl (ov_pick_t rfl rfl rfl) <| rl_v rfl rfl rfl (ov_move rfl rfl) ?_
 first | refine rl_yesD 34 rfl ((by omega)) ?_ | refine rl_yes 34 rfl ((by omega)) ?_
 refine rl_gv rfl rfl rfl rfl rfl (ov_move rfl rfl) <| rl_gv rfl rfl rfl rfl rfl (ov_eql rfl rfl rfl) <| rl_v rfl rfl rfl (ov_pick_t rfl rfl rfl) <| rl_v rfl rfl rfl (ov_move rfl rfl) ?_
 first | refine rl_yesD 38 rfl (rfl) ?_ | refine rl_yes 38 rfl (rfl) ?_
 refine rl_gv rfl rfl rfl rfl rfl (ov_move rfl rfl) <| rl_gv rfl rfl rfl rfl rfl (ov_eql rfl rfl rfl) <| rl_v rfl rfl rfl (ov_pick_t rfl rfl rfl) <| rl_v rfl rfl rfl (ov_assign rfl rfl) <| rl_nil <| run_ret Tryz.func5 (res1 Tryz.results5 rfl) ?_
 exact ⟨rfl, hO14.sub (List.nil_sublist _)⟩
end Go.Proofs.YtbcjfjldmfljgaaGreat
