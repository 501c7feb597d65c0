import Derived.Test.YtbcjfjldmfljgaaGreatPrL
set_option maxRecDepth 100000
namespace Go.Proofs.YtbcjfjldmfljgaaGreat
open Go.RowKit Go.Proofs Go.MapKept
section
variable {N n : Nat} {v Z : Int → Int}
theorem zS_pri : zS N v Z (zK N n) = pri N n v Z + 1 := by
 unfold zS zK pri
 by_cases c : n < N
 ·rw [if_pos c, if_neg (by omega), show (N : Int) - max 0 ((N : Int) - n) = n by omega]
 ·rw [if_neg c, if_pos (by omega)]; rfl
theorem sm_first (n : Nat) : ∀ k : Nat, sm (fun q => if q < (n : Int) then (1 : Int) else 0) k = min (k : Int) n
 | 0 => by rw [show ((0 : Nat) : Int) = 0 from rfl, sm_zero]; omega
 | k + 1 => by
  rw [show ((k + 1 : Nat) : Int) = (k : Int) + 1 by omega, sm_succ _ (by omega), sm_first n k]
  by_cases c : (k : Int) < n
  ·rw [if_pos c]; omega
  ·rw [if_neg c]; omega
theorem cnt_pri (h : Bds N v Z) : cntP v (pri N n v Z + 1) N = min (N : Int) n := by
 unfold cntP
 rw [← sm_perm (by omega) h.rng (fun i j i0 i1 j0 j1 e => h.inj i0 i1 j0 j1 (by rw [e])) (fun i => if pri N n v Z + 1 ≤ v i then (1 : Int) else 0)]
 rw [sm_congr (g := fun q => if q < (n : Int) then (1 : Int) else 0) fun q q0 q1 => by
  have := h.win (n := n) q0 q1
  by_cases c : q < n
  ·rw [if_pos c, if_pos (by have := this.2 c; omega)]
  ·rw [if_neg c, if_neg fun h9 => c (this.1 (by omega))]]
 exact sm_first n N
theorem pk1 {p i : Int} (hi : i < N) : pkM N v p 1 i ↔ p ≤ v i := ⟨fun h => h.2.elim (·.2) fun q => absurd hi q.1, fun h => ⟨if_pos hi, .inl ⟨hi, h⟩⟩⟩
theorem pk1N {p i : Int} (hi : ¬ i < N) : ¬ pkM N v p 1 i := fun q => by
 have := q.1
 unfold mkS at this
 rw [if_neg hi] at this
 omega
theorem pk2 {p i : Int} (hp : 1 ≤ p) : pkM N v p 2 i ↔ ¬ i < N := ⟨fun h hi => by
 have := h.1
 unfold mkS at this
 rw [if_pos hi] at this
 omega, fun h => ⟨if_neg h, .inr ⟨h, hp⟩⟩⟩
theorem Pick.cntM {p : Int → Prop} {n c : Nat} {K : Int → Int} (h : Pick p n c K) : (c : Int) = sm (fun i => ind (p i)) n := by
 have h1 := h.sum fun _ => 1
 rw [sm_const _ (by omega), Int.mul_one] at h1
 rw [h1]
 exact sm_congr fun i _ _ => Int.mul_one _
theorem srv1 (h : Bds N v Z) (hN : 1 ≤ N ∧ N ≤ 8) (hn : 1 ≤ n ∧ n ≤ 8) {m : Nat} (hm : (m : Int) = min (N : Int) n) : SrvQ N n v (pri N n v Z + 1) 1 m m (fun _ => 1) where
 m1 := by omega
 cnt := fun c I hP => by
  have h1 := hP.cntM
  rw [show ((N + 1 : Nat) : Int) = (N : Int) + 1 by omega, sm_succ _ (by omega), ind_f (pk1N (by omega)), sm_congr (g := fun i => if pri N n v Z + 1 ≤ v i then (1 : Int) else 0) fun i i0 i1 => by
   by_cases c : pri N n v Z + 1 ≤ v i
   ·rw [if_pos c, ind_t ((pk1 i1).2 c)]
   ·rw [if_neg c, ind_f fun q => c ((pk1 i1).1 q)]] at h1
  have h2 := cnt_pri (n := n) h
  unfold cntP at h2
  omega
 dst := fun a b a0 _ b0 _ ha hb e => by
  have a1 : a < N := Classical.byContradiction fun q => pk1N q ha
  have b1 : b < N := Classical.byContradiction fun q => pk1N q hb
  unfold mkP at e
  rw [if_pos a1, if_pos b1] at e
  obtain ⟨q, hq, rfl⟩ := h.ex a a0 a1
  obtain ⟨r, hr, rfl⟩ := h.ex b b0 b1
  rw [h.inj hq.1 hq.2 hr.1 hr.2 e]
 amt := fun i x _ _ hi x0 x1 => by
  have i1 : i < N := Classical.byContradiction fun q => pk1N q hi
  rw [sm_const _ x0, Int.mul_one]
  unfold mkQ
  rw [if_pos i1]
  omega
 V := by omega
theorem srv2 (h : Bds N v Z) (hN : 1 ≤ N ∧ N ≤ 8) (hn : 1 ≤ n ∧ n ≤ 8) {m : Nat} (hm : (m : Int) = min (N : Int) n) : SrvQ N n v (pri N n v Z + 1) 2 m 1 (fun _ => (m : Int)) := by
 have hp : 1 ≤ pri N n v Z + 1 := by have := h.pos (n := n); omega
 exact {
  m1 := by omega
  cnt := fun c I hP => by
   have h1 := hP.cntM
   rw [show ((N + 1 : Nat) : Int) = (N : Int) + 1 by omega, sm_succ _ (by omega), ind_t ((pk2 hp).2 (by omega)), sm_zeroG fun i _ i1 => ind_f fun q => (pk2 hp).1 q i1] at h1
   omega
  dst := fun a b a0 a1 b0 b1 ha hb _ => by
   have := (pk2 hp).1 ha
   have := (pk2 hp).1 hb
   omega
  amt := fun i x _ _ hi x0 x1 => by
   rw [show x = 0 by omega, sm_zero]
   unfold mkQ
   rw [if_neg ((pk2 hp).1 hi)]
   omega
  V := by omega }
end
theorem inM_any (x lo hi : Int) (w : World) (h : lo ≤ x ∧ x ≤ hi) : Calls Tryz.prog 19 #[iv x, iv lo, iv hi] w fun e w' => e = .returned (.bool true) ∧ Own w.heap.size w w' [] := by
 refine calls_of_run (F := [(0, _), (1, _), (2, _)]) Tryz.func19 rfl Tryz.ntmps19 rfl rfl ?_
 have hO0 := Own.init w
 refine run_seq <| run_region <| rl_v rfl rfl rfl (ov_assign rfl rfl) <| rl_nil <| run_seq <| run_region <| rl_v rfl rfl rfl (ov_move rfl rfl) <| rl_v rfl rfl rfl (ov_move rfl rfl) <| rl_v rfl rfl rfl (ov_geq rfl rfl rfl) <| rl_v rfl rfl rfl (ov_move rfl rfl) ?_
 first | refine rl_split_dec 10 rfl (fun g1 => ?_) (fun g1 => ?_) | refine rl_split 10 rfl (fun g1 => ?_) (fun g1 => ?_)
 ·refine rl_gv rfl rfl rfl rfl rfl (ov_move rfl rfl) <| rl_gv rfl rfl rfl rfl rfl (ov_move rfl rfl) <| rl_gv rfl rfl rfl rfl rfl (ov_leq rfl rfl rfl) <| rl_v rfl rfl rfl (ov_pick_t rfl rfl rfl) <| rl_v rfl rfl rfl (ov_assign rfl rfl) <| rl_nil <| run_ret Tryz.func19 (res1 Tryz.results19 rfl) ?_
  exact ⟨congrArg (fun b => Ending.returned (.bool b)) (decide_eq_true_iff.2 h.2), hO0⟩
 ·exfalso; (exact g1 h.1)
theorem checkM_any (la : Option Addr) (lc N n : Nat) (v : Int → Int) (w : World) (hN : N ≤ 8) (hn : 1 ≤ n ∧ n ≤ 8) (hv : ∀ i : Int, 0 ≤ i → i < N → 1 ≤ v i ∧ v i ≤ 100000) (hl : SAt w.heap.size w la 3 (N + 1) (bdF N n v)) :
  Calls Tryz.prog 18 #[.slice la (N + 1 : Nat) lc] w fun e w' => e = .returned (iv 0) ∧ Own w.heap.size w w' [] := by
 obtain ⟨lb, lo, hla, hlr⟩ := hl.open (by decide)
 refine calls_of_run (F := [(0, _)]) Tryz.func18 rfl Tryz.ntmps18 rfl rfl ?_
 have hO0 := Own.init w
 refine run_seq <| run_region <| rl_v rfl rfl rfl (ov_assign rfl rfl) <| rl_nil <| run_seq <| run_seq <| run_region <| rl_v rfl rfl rfl (ov_move rfl rfl) <| rl_v rfl rfl rfl (ov_len rfl Tryz.underlying24 rfl) <| rl_v rfl rfl rfl (ov_gtr rfl rfl rfl) <| rl_nil ?_
 first | refine run_cond_dec rfl (fun c0 => ?_) (fun c0 => ?_) | refine run_cond rfl (fun c0 => ?_) (fun c0 => ?_)
 ·exfalso; omega
 ·refine run_skip <| run_seq <| run_seq <| run_region <| rl_v rfl rfl rfl (ov_move rfl rfl) <| rl_v rfl rfl rfl (ov_len rfl Tryz.underlying24 rfl) <| rl_v rfl rfl rfl (ov_move rfl rfl) <| rl_nil <| run_block <| Run.keep [8, 9, 10] (F' := [(8, _), (9, _), (10, _)]) rfl <| run_loop1 (fun (i : Nat) => [(10, .int .i64 (i : Int))]) [8, 9] (fun (i : Nat) (w1 : World) => i ≤ N + 1 ∧ Own w.heap.size w w1 []) (fun (i : Nat) => N + 1 - i) (0) ?_ (And.intro (by exact slot_int rfl (by first | omega)) (And.intro rfl (And.intro rfl trivial))) ?_
  ·exact ⟨Nat.zero_le _, hO0⟩
  intro i w1 hIw1 ih2
  obtain ⟨hi, hO1⟩ := hIw1
  show Run _ _ _ _ [(10, _), (8, _), (9, _)] _ _
  refine run_seq <| run_region <| rl_v rfl rfl rfl (ov_lss rfl rfl rfl) <| rl_nil <| run_seq ?_
  first | refine run_cond_dec rfl (fun c1 => ?_) (fun c1 => ?_) | refine run_cond rfl (fun c1 => ?_) (fun c1 => ?_)
  ·have hp := mkP_rng hv (i := i) (by omega)
   have hq := mkQ_rng (N := N) hn i
   refine run_skip <| run_seq <| run_block <| run_seq <| run_region <| rl_v rfl rfl rfl (ov_index rfl Tryz.underlying24 (by kernel_rfl) (s := 3) rfl rfl ⟨by omega, by omega⟩ (by exact hla (by omega))) ?_
   refine rl_v rfl rfl rfl (ov_loadE rfl Tryz.underlying28 rfl (by kernel_rfl) rfl ⟨by omega, by omega⟩ rfl ((hlr _ hO1.below))) ?_
   refine rl_ow rfl (ow_alloc _ rfl rfl rfl zero_28 rfl hO1) ?_
   rintro _ w3 ⟨x4, rfl, hO4, hs5⟩
   refine rl_ow rfl (ow_storeW rfl rfl (by kernel_rfl) hO4 0 rfl rfl (by rfl) rfl (by rfl)) ?_
   rintro _ w6 ⟨rfl, hO7, hs8⟩
   have hO2 : Own w.heap.size w w6 [some (lch x4 28 (bdF N n v i))] := hO7
   have hms : mkS N i = 1 ∨ mkS N i = 2 := by
    unfold mkS
    split
    ·exact .inl rfl
    ·exact .inr rfl
   refine rl_nil <| run_seq <| run_region <| rl_v rfl rfl rfl (ov_fieldS rfl Tryz.underlying28 rfl (fo := 0) rfl (by kernel_rfl) rfl) ?_
   refine rl_v rfl rfl rfl (ov_load rfl Tryz.underlying3 rfl rfl (by exact hO2.cellL 0 rfl (off := 0) rfl)) ?_
   refine rl_v rfl rfl rfl (ov_neq rfl rfl rfl) <| rl_v rfl rfl rfl (ov_move rfl rfl) ?_
   first | refine rl_split_dec 17 rfl (fun g1 => ?_) (fun g1 => ?_) | refine rl_split 17 rfl (fun g1 => ?_) (fun g1 => ?_)
   ·refine rl_gv rfl rfl rfl rfl rfl (ov_fieldS rfl Tryz.underlying28 rfl (fo := 0) rfl (by kernel_rfl) rfl) ?_
    refine rl_gv rfl rfl rfl rfl rfl (ov_load rfl Tryz.underlying3 rfl rfl (by exact hO2.cellL 0 rfl (off := 0) rfl)) ?_
    refine rl_gv rfl rfl rfl rfl rfl (ov_neq rfl rfl rfl) <| rl_v rfl rfl rfl (ov_pick_t rfl rfl rfl) <| rl_v rfl rfl rfl (ov_move rfl rfl) ?_
    first | refine rl_noD 22 rfl ((fun h => h (hms.resolve_left g1))) ?_ | refine rl_no 22 rfl ((fun h => h (hms.resolve_left g1))) ?_
    refine rl_gv rfl rfl rfl rfl rfl (ov_fieldS rfl Tryz.underlying28 rfl (fo := 1) rfl (by kernel_rfl) rfl) ?_
    refine rl_gv rfl rfl rfl rfl rfl (ov_load rfl Tryz.underlying2 rfl rfl (by exact hO2.cellL 0 rfl (off := 1) rfl)) ?_
    refine rl_gcall callable_19 rfl rfl rfl rfl rfl rfl rfl rfl (inM_any (mkP N v i) 1 1000000 _ (by omega)) (fun e10 w11 hp12 => ?_)
    obtain ⟨rfl, hOa⟩ := hp12
    refine ⟨_, rfl, ?_⟩
    have hO13 := hO2.join hOa
    refine rl_gv rfl rfl rfl rfl rfl (ov_not rfl rfl) <| rl_v rfl rfl rfl (ov_pick_f rfl rfl rfl) <| rl_v rfl rfl rfl (ov_move rfl rfl) ?_
    first | refine rl_noD 28 rfl (rfl) ?_ | refine rl_no 28 rfl (rfl) ?_
    refine rl_gv rfl rfl rfl rfl rfl (ov_fieldS rfl Tryz.underlying28 rfl (fo := 2) rfl (by kernel_rfl) rfl) ?_
    refine rl_gv rfl rfl rfl rfl rfl (ov_load rfl Tryz.underlying2 rfl rfl (by exact hO13.cellL 0 rfl (off := 2) rfl)) ?_
    refine rl_gcall callable_19 rfl rfl rfl rfl rfl rfl rfl rfl (inM_any (mkQ N n i) 1 1000000000 _ (by omega)) (fun e14 w15 hp16 => ?_)
    obtain ⟨rfl, hOb⟩ := hp16
    refine ⟨_, rfl, ?_⟩
    have hO17 := hO13.join hOb
    refine rl_gv rfl rfl rfl rfl rfl (ov_not rfl rfl) <| rl_v rfl rfl rfl (ov_pick_f rfl rfl rfl) <| rl_nil ?_
    first | refine run_cond_dec rfl (fun c2 => ?_) (fun c2 => ?_) | refine run_cond rfl (fun c2 => ?_) (fun c2 => ?_)
    ·exfalso; (exact Bool.noConfusion c2)
    ·refine run_skip <| run_inBlock <| run_region <| rl_v rfl rfl rfl (ov_add rfl rfl rfl (by omega)) ?_
     refine rl_v rfl rfl rfl (ov_move rfl rfl) <| rl_nil ?_
     refine Run.use (ih2 (i + 1) _ ?_ ?_) (And.intro (by exact slot_int rfl (by first | omega)) (And.intro rfl (And.intro rfl trivial)))
     ·first | omega | (dsimp only; omega)
     ·exact ⟨by omega, hO17.sub (List.nil_sublist _)⟩
   ·refine rl_gskip rfl rfl rfl rfl rfl rfl <| rl_gskip rfl rfl rfl rfl rfl rfl <| rl_gskip rfl rfl rfl rfl rfl rfl <| rl_v rfl rfl rfl (ov_pick_f rfl rfl rfl) <| rl_v rfl rfl rfl (ov_move rfl rfl) <| rl_gv rfl rfl rfl rfl rfl (ov_fieldS rfl Tryz.underlying28 rfl (fo := 1) rfl (by kernel_rfl) rfl) ?_
    refine rl_gv rfl rfl rfl rfl rfl (ov_load rfl Tryz.underlying2 rfl rfl (by exact hO2.cellL 0 rfl (off := 1) rfl)) ?_
    refine rl_gcall callable_19 rfl rfl rfl rfl rfl rfl rfl rfl (inM_any (mkP N v i) 1 1000000 _ (by omega)) (fun e18 w19 hp20 => ?_)
    obtain ⟨rfl, hOa⟩ := hp20
    refine ⟨_, rfl, ?_⟩
    have hO21 := hO2.join hOa
    refine rl_gv rfl rfl rfl rfl rfl (ov_not rfl rfl) <| rl_v rfl rfl rfl (ov_pick_f rfl rfl rfl) <| rl_v rfl rfl rfl (ov_move rfl rfl) ?_
    first | refine rl_noD 28 rfl (rfl) ?_ | refine rl_no 28 rfl (rfl) ?_
    refine rl_gv rfl rfl rfl rfl rfl (ov_fieldS rfl Tryz.underlying28 rfl (fo := 2) rfl (by kernel_rfl) rfl) ?_
    refine rl_gv rfl rfl rfl rfl rfl (ov_load rfl Tryz.underlying2 rfl rfl (by exact hO21.cellL 0 rfl (off := 2) rfl)) ?_
    refine rl_gcall callable_19 rfl rfl rfl rfl rfl rfl rfl rfl (inM_any (mkQ N n i) 1 1000000000 _ (by omega)) (fun e22 w23 hp24 => ?_)
    obtain ⟨rfl, hOb⟩ := hp24
    refine ⟨_, rfl, ?_⟩
    have hO25 := hO21.join hOb
    refine rl_gv rfl rfl rfl rfl rfl (ov_not rfl rfl) <| rl_v rfl rfl rfl (ov_pick_f rfl rfl rfl) <| rl_nil ?_
    first | refine run_cond_dec rfl (fun c2 => ?_) (fun c2 => ?_) | refine run_cond rfl (fun c2 => ?_) (fun c2 => ?_)
    ·exfalso; (exact Bool.noConfusion c2)
    ·refine run_skip <| run_inBlock <| run_region <| rl_v rfl rfl rfl (ov_add rfl rfl rfl (by omega)) ?_
     refine rl_v rfl rfl rfl (ov_move rfl rfl) <| rl_nil ?_
     refine Run.use (ih2 (i + 1) _ ?_ ?_) (And.intro (by exact slot_int rfl (by first | omega)) (And.intro rfl (And.intro rfl trivial)))
     ·first | omega | (dsimp only; omega)
     ·exact ⟨by omega, hO25.sub (List.nil_sublist _)⟩
  ·refine run_exit rfl <| run_seq <| run_region <| rl_v rfl rfl rfl (ov_assign rfl rfl) <| rl_nil <| run_ret Tryz.func18 (res1 Tryz.results18 rfl) ?_
   exact ⟨rfl, hO1⟩
set_option maxHeartbeats 8000000 in
theorem cleared_any (la : Option Addr) (lc N n : Nat) (v Z : Int → Int) (w : World) (hN : 1 ≤ N ∧ N ≤ 8) (hn : 1 ≤ n ∧ n ≤ 8) (h : Bds N v Z) (hv : ∀ i : Int, 0 ≤ i → i < N → v i ≤ 100000) (hl : SAt w.heap.size w la 3 (N + 1) (bdF N n v)) :
  Calls Tryz.prog 21 #[.slice la (N + 1 : Nat) lc, iv (pri N n v Z + 1), iv 1] w fun e w' => ∃ (V S : Int) (fb : Nat) (Fo : Int → Int), e = .returned (.tuple #[.agg #[iv (pri N n v Z + 1), iv V, iv S, .slice (some ⟨fb, 0, none⟩) (N + 1 : Nat) (N + 1 : Nat)], iv 0]) ∧ (∀ i : Int, 0 ≤ i → i < N → (Fo i = 1 ↔ pri N n v Z < v i)) ∧ Own w.heap.size w w' [some (vch fb 2 (N + 1) (fun i => iv (Fo i)))] := by
 obtain ⟨m, hm⟩ : ∃ m : Nat, (m : Int) = min (N : Int) n := ⟨min N n, by omega⟩
 have hq1 := srv1 h hN hn hm
 have hq2 := srv2 h hN hn hm
 have hpp := h.pos (n := n)
 have hcp := cnt_pri (n := n) h
 rw [← hm] at hcp
 have hv2 : ∀ i : Int, 0 ≤ i → i < N → 1 ≤ v i ∧ v i ≤ 100000 := fun i a b => ⟨h.p1 i a b, hv i a b⟩
 refine calls_of_run (F := [(0, _), (1, _), (2, _)]) Tryz.func21 rfl Tryz.ntmps21 rfl rfl ?_
 have hO0 := Own.init w
 refine run_seq <| run_region <| rl_ow rfl (ow_alloc _ rfl rfl rfl zero_35 rfl hO0) ?_
 rintro _ w1 ⟨b6, rfl, hO2, hs3⟩
 refine rl_v rfl rfl rfl (ov_assign rfl rfl) <| rl_nil <| run_seq <| run_region <| rl_v rfl rfl rfl (ov_move rfl rfl) <| rl_v rfl rfl rfl (ov_move rfl rfl) ?_
 refine rl_call callable_45 rfl rfl rfl rfl rfl rfl (sums_any la lc N n v (pri N n v Z + 1) _ hN.2 hn.2 (by omega) (hO2.satU hl)) (fun e4 w5 hp6 => ?_)
 obtain ⟨rfl, hOa⟩ := hp6
 refine ⟨_, rfl, ?_⟩
 have hO7 := hO2.join hOa
 rw [hcp]
 refine rl_v rfl rfl rfl (ov_move rfl rfl) <| rl_v rfl rfl rfl (ov_extract rfl rfl (by rfl)) ?_
 refine rl_v rfl rfl rfl (ov_extract rfl rfl (by rfl)) ?_
 refine rl_v rfl rfl rfl (ov_assign rfl rfl) <| rl_v rfl rfl rfl (ov_assign rfl rfl) <| rl_nil <| run_seq <| run_region <| rl_v rfl rfl rfl (ov_move rfl rfl) <| rl_v rfl rfl rfl (ov_move rfl rfl) <| rl_v rfl rfl rfl (ov_move rfl rfl) <| rl_v rfl rfl rfl (ov_min rfl rfl rfl) <| rl_v rfl rfl rfl (ov_move rfl rfl) <| rl_v rfl rfl rfl (ov_move rfl rfl) <| rl_v rfl rfl rfl (ov_sub rfl rfl rfl (by omega)) ?_
 refine rl_v rfl rfl rfl (ov_move rfl rfl) <| rl_v rfl rfl rfl (ov_len rfl Tryz.underlying24 rfl) ?_
 refine rl_make ((N+1)) rfl rfl rfl rfl Tryz.underlying22 info_2 rfl hO7 rfl rfl (by rfl) (by rfl) ⟨by omega, by omega⟩ (fun fb w8 hO9 hs10 => ?_)
 refine rl_v rfl rfl rfl (ov_buildL rfl lay_35 rfl (us := [_, _, _, _]) rfl) <| rl_ow rfl (ow_alloc _ rfl rfl rfl zero_35 rfl hO9) ?_
 rintro _ w11 ⟨b10, rfl, hO12, hs13⟩
 refine rl_ow rfl (ow_storeW rfl rfl (by kernel_rfl) hO12 0 rfl rfl (by rfl) rfl (by rfl)) ?_
 rintro _ w14 ⟨rfl, hO15, hs16⟩
 have e9 : min (m : Int) n = m := by omega
 have h9 := hO15
 rw [e9] at h9
 refine rl_nil <| run_seq <| run_seq <| run_region <| rl_v rfl rfl rfl (ov_fieldS rfl Tryz.underlying35 rfl (fo := 1) rfl (by kernel_rfl) rfl) ?_
 refine rl_v rfl rfl rfl (ov_load rfl Tryz.underlying2 rfl rfl (by exact h9.cellL 0 rfl (off := 1) rfl)) ?_
 refine rl_v rfl rfl rfl (ov_eql rfl rfl rfl) <| rl_nil ?_
 first | refine run_cond_dec rfl (fun c1 => ?_) (fun c1 => ?_) | refine run_cond rfl (fun c1 => ?_) (fun c1 => ?_)
 ·exfalso; omega
 ·refine run_skip <| run_seq <| run_seq <| run_region <| rl_ow rfl (ow_build1 [_, _] rfl rfl rfl rfl rfl Tryz.underlying30 info_3 (by decide) h9 rfl rfl) ?_
  rintro _ w17 ⟨sb, rfl, hO18, hs19⟩
  have hOp := hO18.front 2 rfl
  refine rl_v rfl rfl rfl (ov_len rfl Tryz.underlying30 rfl) <| rl_v rfl rfl rfl (ov_move rfl rfl) <| rl_nil <| run_block <| run_once <| run_seq <| run_region <| rl_v rfl rfl rfl (ov_lss rfl rfl rfl) <| rl_nil <| run_seq ?_
  first | refine run_cond_dec rfl (fun q1 => ?_) (fun q1 => ?_) | refine run_cond rfl (fun q1 => ?_) (fun q1 => ?_)
  ·refine run_skip <| run_seq <| run_block <| run_seq <| run_region <| rl_v rfl rfl rfl (ov_index1 rfl Tryz.underlying30 (by kernel_rfl) rfl rfl ⟨by omega, by omega⟩ rfl) ?_
   refine rl_v rfl rfl rfl (ov_load rfl Tryz.underlying3 rfl rfl (by exact hOp.cellI 1 rfl 0 (by decide) (by decide))) ?_
   refine rl_v rfl rfl rfl (ov_assign rfl rfl) <| rl_nil <| run_region <| rl_v rfl rfl rfl (ov_move rfl rfl) <| rl_v rfl rfl rfl (ov_move rfl rfl) <| rl_v rfl rfl rfl (ov_move rfl rfl) <| rl_v rfl rfl rfl (ov_fieldS rfl Tryz.underlying35 rfl (fo := 1) rfl (by kernel_rfl) rfl) ?_
   refine rl_v rfl rfl rfl (ov_load rfl Tryz.underlying2 rfl rfl (by exact hOp.cellL 2 rfl (off := 1) rfl)) ?_
   refine rl_v rfl rfl rfl (ov_move rfl rfl) <| rl_v rfl rfl rfl (ov_fieldS rfl Tryz.underlying35 rfl (fo := 3) rfl (by kernel_rfl) rfl) ?_
   refine rl_v rfl rfl rfl (ov_load rfl Tryz.underlying22 rfl rfl (by exact hOp.cellL 2 rfl (off := 3) rfl)) ?_
   refine rl_call callable_46 rfl rfl rfl rfl rfl rfl (serve_any la lc N n v (pri N n v Z + 1) 1 m m (fun _ => 1) fb _ (fun _ => 0) _ _ w17 hN.2 hn hv2 hq1 hl hOp) (fun e20 w21 hp22 => ?_)
   obtain ⟨rfl, F1, h1a, h1b, hO1⟩ := hp22
   refine ⟨_, rfl, ?_⟩
   refine rl_nil <| run_inBlock <| run_region <| rl_v rfl rfl rfl (ov_add rfl rfl rfl (by omega)) ?_
   refine rl_v rfl rfl rfl (ov_move rfl rfl) <| rl_nil <| run_again <| run_seq <| run_region <| rl_v rfl rfl rfl (ov_lss rfl rfl rfl) <| rl_nil <| run_seq ?_
   first | refine run_cond_dec rfl (fun q2 => ?_) (fun q2 => ?_) | refine run_cond rfl (fun q2 => ?_) (fun q2 => ?_)
   ·refine run_skip <| run_seq <| run_block <| run_seq <| run_region <| rl_v rfl rfl rfl (ov_index1 rfl Tryz.underlying30 (by kernel_rfl) rfl rfl ⟨by omega, by omega⟩ rfl) ?_
    refine rl_v rfl rfl rfl (ov_load rfl Tryz.underlying3 rfl rfl (by exact hO1.cellI 1 rfl 1 (by decide) (by decide))) ?_
    refine rl_v rfl rfl rfl (ov_assign rfl rfl) <| rl_nil <| run_region <| rl_v rfl rfl rfl (ov_move rfl rfl) <| rl_v rfl rfl rfl (ov_move rfl rfl) <| rl_v rfl rfl rfl (ov_move rfl rfl) <| rl_v rfl rfl rfl (ov_fieldS rfl Tryz.underlying35 rfl (fo := 1) rfl (by kernel_rfl) rfl) ?_
    refine rl_v rfl rfl rfl (ov_load rfl Tryz.underlying2 rfl rfl (by exact hO1.cellL 2 rfl (off := 1) rfl)) ?_
    refine rl_v rfl rfl rfl (ov_move rfl rfl) <| rl_v rfl rfl rfl (ov_fieldS rfl Tryz.underlying35 rfl (fo := 3) rfl (by kernel_rfl) rfl) ?_
    refine rl_v rfl rfl rfl (ov_load rfl Tryz.underlying22 rfl rfl (by exact hO1.cellL 2 rfl (off := 3) rfl)) ?_
    refine rl_call callable_46 rfl rfl rfl rfl rfl rfl (serve_any la lc N n v (pri N n v Z + 1) 2 m 1 (fun _ => (m : Int)) fb _ F1 _ _ w21 hN.2 hn hv2 hq2 hl hO1) (fun e23 w24 hp25 => ?_)
    obtain ⟨rfl, F2, h2a, h2b, hO2⟩ := hp25
    refine ⟨_, rfl, ?_⟩
    refine rl_nil <| run_inBlock <| run_region <| rl_v rfl rfl rfl (ov_add rfl rfl rfl (by omega)) ?_
    refine rl_v rfl rfl rfl (ov_move rfl rfl) <| rl_nil <| run_again <| run_seq <| run_region <| rl_v rfl rfl rfl (ov_lss rfl rfl rfl) <| rl_nil <| run_seq ?_
    first | refine run_cond_dec rfl (fun q3 => ?_) (fun q3 => ?_) | refine run_cond rfl (fun q3 => ?_) (fun q3 => ?_)
    ·exfalso; omega
    ·refine run_exit rfl <| run_seq <| run_region <| rl_v rfl rfl rfl (ov_loadW rfl Tryz.underlying35 rfl (by kernel_rfl) rfl hO2 2 rfl) ?_
     refine rl_ow rfl (ow_storeW rfl rfl (by kernel_rfl) hO2 3 rfl rfl (by rfl) rfl (by rfl)) ?_
     rintro _ w26 ⟨rfl, hO27, hs28⟩
     have hFo : ∀ i : Int, 0 ≤ i → i < N → (F2 i = 1 ↔ pri N n v Z < v i) := fun i i0 i1 => by
      rw [h2b i fun q => (pk2 (by omega)).1 q i1]
      by_cases c : pri N n v Z + 1 ≤ v i
      ·obtain ⟨x, _, e⟩ := h1a i i0 (by omega) ((pk1 i1).2 c)
       exact ⟨fun _ => by omega, fun _ => e⟩
      ·rw [h1b i fun q => c ((pk1 i1).1 q)]
       exact ⟨fun q => absurd q (by decide), fun q => by omega⟩
     refine rl_v rfl rfl rfl (ov_assign rfl rfl) <| rl_nil <| run_ret Tryz.func21 (resW2 Tryz.results21 rfl rfl Tryz.underlying35 rfl (by kernel_rfl) hO27 3 rfl) ?_
     exact ⟨m, m - n, fb, F2, rfl, hFo, hO27.sub (.cons_cons _ (List.nil_sublist _))⟩
   ·exfalso; omega
  ·exfalso; omega
set_option maxHeartbeats 8000000 in
theorem clear_any (la : Option Addr) (lc N n : Nat) (v Z : Int → Int) (w : World) (hN : 1 ≤ N ∧ N ≤ 8) (hn : 1 ≤ n ∧ n ≤ 8) (h : Bds N v Z) (hv : ∀ i : Int, 0 ≤ i → i < N → v i ≤ 100000) (hl : SAt w.heap.size w la 3 (N + 1) (bdF N n v)) :
  Calls Tryz.prog 7 #[.slice la (N + 1 : Nat) lc, iv 1, iv 1] w fun e w' => ∃ (V S : Int) (fb : Nat) (Fo : Int → Int), e = .returned (.tuple #[.agg #[iv (pri N n v Z + 1), iv V, iv S, .slice (some ⟨fb, 0, none⟩) (N + 1 : Nat) (N + 1 : Nat)], iv 0]) ∧ (∀ i : Int, 0 ≤ i → i < N → (Fo i = 1 ↔ pri N n v Z < v i)) ∧ Own w.heap.size w w' [some (vch fb 2 (N + 1) (fun i => iv (Fo i)))] := by
 have hpp := h.pos (n := n)
 have hv2 : ∀ i : Int, 0 ≤ i → i < N → 1 ≤ v i ∧ v i ≤ 100000 := fun i a b => ⟨h.p1 i a b, hv i a b⟩
 refine calls_of_run (F := [(0, _), (1, _), (2, _)]) Tryz.func7 rfl Tryz.ntmps7 rfl rfl ?_
 have hO0 := Own.init w
 refine run_seq <| run_region <| rl_ow rfl (ow_alloc _ rfl rfl rfl zero_35 rfl hO0) ?_
 rintro _ w1 ⟨b6, rfl, hO2, hs3⟩
 refine rl_v rfl rfl rfl (ov_assign rfl rfl) <| rl_nil <| run_seq <| run_seq <| run_region <| rl_v rfl rfl rfl (ov_move rfl rfl) ?_
 refine rl_call callable_18 rfl rfl rfl rfl rfl rfl (checkM_any la lc N n v _ hN.2 hn hv2 (hO2.satU hl)) (fun e4 w5 hp6 => ?_)
 obtain ⟨rfl, hOa⟩ := hp6
 refine ⟨_, rfl, ?_⟩
 have hO7 := hO2.join hOa
 refine rl_v rfl rfl rfl (ov_assign rfl rfl) <| rl_nil <| run_seq <| run_region <| rl_v rfl rfl rfl (ov_move rfl rfl) <| rl_v rfl rfl rfl (ov_neq rfl rfl rfl) <| rl_nil ?_
 first | refine run_cond_dec rfl (fun c1 => ?_) (fun c1 => ?_) | refine run_cond rfl (fun c1 => ?_) (fun c1 => ?_)
 ·exfalso; (exact c1 rfl)
 ·refine run_skip <| run_seq <| run_seq <| run_region <| rl_v rfl rfl rfl (ov_move rfl rfl) ?_
  refine rl_call callable_19 rfl rfl rfl rfl rfl rfl (inM_any 1 1 1000000 _ (by decide)) (fun e8 w9 hp10 => ?_)
  obtain ⟨rfl, hOb⟩ := hp10
  refine ⟨_, rfl, ?_⟩
  have hO11 := hO7.join hOb
  refine rl_v rfl rfl rfl (ov_not rfl rfl) <| rl_v rfl rfl rfl (ov_move rfl rfl) ?_
  first | refine rl_noD 19 rfl (rfl) ?_ | refine rl_no 19 rfl (rfl) ?_
  refine rl_gv rfl rfl rfl rfl rfl (ov_move rfl rfl) <| rl_gv rfl rfl rfl rfl rfl (ov_neq rfl rfl rfl) <| rl_gv rfl rfl rfl rfl rfl (ov_move rfl rfl) ?_
  first | refine rl_noD 22 rfl ((fun h => h rfl)) ?_ | refine rl_no 22 rfl ((fun h => h rfl)) ?_
  refine rl_gskip rfl rfl rfl rfl rfl rfl <| rl_gskip rfl rfl rfl rfl rfl rfl <| rl_gv rfl rfl rfl rfl rfl (ov_pick_f rfl rfl rfl) <| rl_v rfl rfl rfl (ov_pick_f rfl rfl rfl) <| rl_nil <| run_cond_f rfl <| run_skip <| run_seq <| run_region <| rl_v rfl rfl rfl (ov_move rfl rfl) <| rl_v rfl rfl rfl (ov_move rfl rfl) ?_
  refine rl_call callable_20 rfl rfl rfl rfl rfl rfl (priceM_any la lc N n v Z _ hN hn h hv (hO11.satU hl)) (fun e12 w13 hp14 => ?_)
  obtain ⟨rfl, hOc⟩ := hp14
  refine ⟨_, rfl, ?_⟩
  have hO15 := hO11.join hOc
  rw [zS_pri]
  refine rl_v rfl rfl rfl (ov_assign rfl rfl) <| rl_nil <| run_seq <| run_seq <| run_region <| rl_v rfl rfl rfl (ov_move rfl rfl) <| rl_v rfl rfl rfl (ov_eql rfl rfl rfl) <| rl_nil ?_
  first | refine run_cond_dec rfl (fun c3 => ?_) (fun c3 => ?_) | refine run_cond rfl (fun c3 => ?_) (fun c3 => ?_)
  ·exfalso; omega
  ·refine run_skip <| run_seq <| run_region <| rl_v rfl rfl rfl (ov_move rfl rfl) <| rl_v rfl rfl rfl (ov_move rfl rfl) <| rl_v rfl rfl rfl (ov_move rfl rfl) ?_
   refine rl_call callable_21 rfl rfl rfl rfl rfl rfl (cleared_any la lc N n v Z _ hN hn h hv (hO15.satU hl)) (fun e16 w17 hp18 => ?_)
   obtain ⟨V, S, fb, Fo, rfl, hFo, hOd⟩ := hp18
   refine ⟨_, rfl, ?_⟩
   have hO19 := hO15.join hOd
   refine rl_v rfl rfl rfl (ov_extract rfl rfl (by rfl)) ?_
   refine rl_v rfl rfl rfl (ov_extract rfl rfl (by rfl)) ?_
   refine rl_ow rfl (ow_storeW rfl rfl (by kernel_rfl) hO19 1 rfl rfl (by rfl) rfl (by rfl)) ?_
   rintro _ w20 ⟨rfl, hO21, hs22⟩
   refine rl_v rfl rfl rfl (ov_assign rfl rfl) <| rl_nil <| run_ret Tryz.func7 (resW2 Tryz.results7 rfl rfl Tryz.underlying35 rfl (by kernel_rfl) hO21 1 rfl) ?_
   exact ⟨V, S, fb, Fo, rfl, hFo, hO21.sub (.cons_cons _ (List.nil_sublist _))⟩
end Go.Proofs.YtbcjfjldmfljgaaGreat
