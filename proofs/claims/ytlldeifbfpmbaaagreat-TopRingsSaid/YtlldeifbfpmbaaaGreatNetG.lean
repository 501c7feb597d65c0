import Derived.Test.YtlldeifbfpmbaaaGreatNetF
import Derived.Test.YtlldeifbfpmbaaaGreatArr
set_option maxRecDepth 100000
namespace Go.Proofs.YtlldeifbfpmbaaaGreat
open Go.RowKit Go.Proofs
def ow (n : Nat) (D : Int → Int → Int) (i : Int) : Int := sm (D i) n
def rcv (n : Nat) (D : Int → Int → Int) (p : Int → Int) (j : Int) : Int := sm (fun i => p i * D i j / ow n D i) n
def upto (n : Nat) (f : Int → Int) : Int → Int := fun i => if 0 ≤ i ∧ i < n then f i else 0
theorem upto_in {n : Nat} {f : Int → Int} {i : Int} (h0 : 0 ≤ i) (h1 : i < n) : upto n f i = f i := if_pos ⟨h0, h1⟩
theorem upto_out {n : Nat} {f : Int → Int} {i : Int} (h1 : (n : Int) ≤ i) : upto n f i = 0 := if_neg (by omega)
theorem ow_rng {n : Nat} {D : Int → Int → Int} (h : Valid n D) (i : Int) : 0 ≤ ow n D i ∧ ow n D i ≤ 32000000 := by
 have h1 : 0 ≤ ow n D i := sm_nonneg fun j _ _ => h.lo i j
 have h2 : ow n D i ≤ n * 1000000 := sm_bound _ (by omega) fun j _ _ => h.hi i j
 have := h.le
 omega
theorem ow_ge {n : Nat} {D : Int → Int → Int} (h : Valid n D) (i j : Int) (h0 : 0 ≤ j) (h1 : j < n) : D i j ≤ ow n D i := sm_pos (fun k _ _ => h.lo i k) j h0 h1
theorem quo_rng {n : Nat} {D : Int → Int → Int} (h : Valid n D) (p i j : Int) (hp0 : 0 ≤ p) (hp1 : p ≤ ow n D i) : 0 ≤ p * D i j / ow n D i ∧ p * D i j / ow n D i ≤ D i j := by
 have hD := h.lo i j
 have h0 := (ow_rng h i).1
 refine ⟨Int.ediv_nonneg (Int.mul_nonneg hp0 hD) h0, ?_⟩
 by_cases hz : ow n D i = 0
 ·rw [hz, Int.ediv_zero]; exact hD
 ·refine Int.ediv_le_of_le_mul (by omega) ?_
  rw [Int.mul_comm (D i j)]
  exact Int.mul_le_mul_of_nonneg_right hp1 hD
theorem netTotal_any (ao : Option Addr) (n c : Nat) (D : Int → Int → Int) (cash : Value) (i : Int) (w : World) (hv : Valid n D) (hi0 : 0 ≤ i) (hi1 : i < n)
  (h : ITab w.heap.size w ao n (fun _ => n) (fun r c => .int .i64 (D r c))) :
  Calls Tryz.prog 126 #[.agg [.slice ao n c, cash].toArray, .int .i64 i] w fun e w' => e = .returned (.int .i64 (ow n D i)) ∧ Below w.heap.size w w' := by
 obtain ⟨A, C, RB, RO, gb, go, hga, hrow, hra, hel, _⟩ := h.open
 have hle := hv.le
 refine calls_of_run (F := [(0, _), (1, _)]) Tryz.func126 rfl Tryz.ntmps126 rfl rfl ?_
 have hO0 := Own.init w
 refine run_seq <| run_region <| rl_ow rfl (ow_box _ rfl rfl rfl rfl rfl hO0) ?_
 rintro _ w1 ⟨b, rfl, hO2, hs3⟩
 refine rl_v rfl rfl rfl (ov_assign rfl rfl) <| rl_nil <| run_seq <| run_region <| rl_v rfl rfl rfl (ov_assign rfl rfl) <| rl_nil <| run_seq <| run_seq <| run_region <| rl_v rfl rfl rfl (ov_fieldS rfl Tryz.underlying73 rfl (fo := 0) rfl (by kernel_rfl) rfl) ?_
 refine rl_v rfl rfl rfl (ov_load rfl Tryz.underlying64 rfl rfl (by exact hO2.cellL 0 rfl rfl)) ?_
 refine rl_v rfl rfl rfl (ov_move rfl rfl) <| rl_v rfl rfl rfl (ov_index1 rfl Tryz.underlying64 (by kernel_rfl) rfl rfl ⟨by omega, by omega⟩ (by exact hga (by omega))) ?_
 refine rl_v rfl rfl rfl (ov_load rfl Tryz.underlying65 rfl rfl (by exact hrow _ hO2.below _ (by omega) (by omega))) ?_
 refine rl_v rfl rfl rfl (ov_len rfl Tryz.underlying65 rfl) <| rl_v rfl rfl rfl (ov_move rfl rfl) <| rl_nil <| run_block <| Run.keep [5, 12, 13, 14] (F' := [(5, _), (12, _), (13, _), (14, _)]) rfl <| run_loop1 (fun (j : Int) => [(14, .int .i64 j), (5, .int .i64 (sm (D i) j))]) [12, 13] (fun (j : Int) (w4 : World) => 0 ≤ j ∧ j ≤ n ∧ Own w.heap.size w w4 [some (lch b 73 [.slice ao n c, cash])]) (fun (j : Int) => ((n : Int) - j).toNat) (0) ?_ (And.intro (by exact slot_int rfl (by first | omega)) (And.intro (by exact slot_int rfl (by first | omega | (first | (rw [sm_zero]; done) | (rw [sm_succ _ hj0]; done)))) (And.intro rfl (And.intro rfl trivial)))) ?_
 ·exact ⟨by omega, by omega, hO2⟩
 intro j w4 hIw4 ih5
 obtain ⟨hj0, hj1, hO⟩ := hIw4
 show Run _ _ _ _ [(14, _), (5, _), (12, _), (13, _)] _ _
 have h1 : 0 ≤ sm (D i) j := sm_nonneg fun k _ _ => hv.lo i k
 have h2 : sm (D i) j ≤ j * 1000000 := sm_bound _ hj0 fun k _ _ => hv.hi i k
 refine run_seq <| run_region <| rl_v rfl rfl rfl (ov_lss rfl rfl rfl) <| rl_nil <| run_seq ?_
 first | refine run_cond_dec rfl (fun h3 => ?_) (fun h3 => ?_) | refine run_cond rfl (fun h3 => ?_) (fun h3 => ?_)
 ·have h4 := hv.lo i j
  have h5 := hv.hi i j
  refine run_skip <| run_seq <| run_block <| run_seq <| run_region <| rl_v rfl rfl rfl (ov_index1 rfl Tryz.underlying65 (by kernel_rfl) rfl rfl ⟨by omega, by omega⟩ (by exact hra _ (by omega) (by omega) (by omega))) ?_
  refine rl_v rfl rfl rfl (ov_load rfl Tryz.underlying2 rfl rfl (by exact hel _ hO.below _ (by omega) (by omega) _ (by omega) (by omega))) ?_
  refine rl_v rfl rfl rfl (ov_assign rfl rfl) <| rl_nil <| run_region <| rl_v rfl rfl rfl (ov_move rfl rfl) <| rl_v rfl rfl rfl (ov_move rfl rfl) <| rl_v rfl rfl rfl (ov_add rfl rfl rfl (by omega)) ?_
  refine rl_v rfl rfl rfl (ov_assign rfl rfl) <| rl_nil <| run_inBlock <| run_region <| rl_v rfl rfl rfl (ov_add rfl rfl rfl (by omega)) ?_
  refine rl_v rfl rfl rfl (ov_move rfl rfl) <| rl_nil ?_
  refine Run.use (ih5 _ _ ?_ ?_) (And.intro (by rfl) (And.intro (by exact slot_int rfl (by first | omega | (first | (rw [sm_zero]; done) | (rw [sm_succ _ hj0]; done)))) (And.intro rfl (And.intro rfl trivial))))
  ·first | omega | (dsimp only; omega)
  ·exact ⟨by omega, by omega, hO⟩
 ·refine run_exit rfl <| run_seq <| run_region <| rl_v rfl rfl rfl (ov_move rfl rfl) <| rl_v rfl rfl rfl (ov_assign rfl rfl) <| rl_nil <| run_ret Tryz.func126 (res1 Tryz.results126 rfl) ?_
  exact ⟨by rw [show j = (n : Int) by omega]; rfl, hO.below⟩
theorem owed_any (ao : Option Addr) (n c : Nat) (D : Int → Int → Int) (cash : Value) (w : World) (hv : Valid n D)
  (h : ITab w.heap.size w ao n (fun _ => n) (fun r c => .int .i64 (D r c))) :
  Calls Tryz.prog 109 #[.agg [.slice ao n c, cash].toArray] w fun e w' => e = .returned (arrv 32 (fun i => .int .i64 (upto n (ow n D) i))) ∧ Below w.heap.size w w' := by
 have hle := hv.le
 refine calls_of_run (F := [(0, _)]) Tryz.func109 rfl Tryz.ntmps109 rfl rfl ?_
 have hO0 := Own.init w
 refine run_seq <| run_region <| rl_ow rfl (ow_box _ rfl rfl rfl rfl rfl hO0) ?_
 rintro _ w1 ⟨b, rfl, hO2, hs3⟩
 refine rl_ow rfl (ow_allocA 32 rfl rfl rfl zero_132 rfl hO2) ?_
 rintro _ w4 ⟨b2, rfl, hO5, hs6⟩
 refine rl_nil <| run_seq <| run_region <| rl_ow rfl (ow_allocA 32 rfl rfl rfl zero_132 rfl hO5) ?_
 rintro _ w7 ⟨b3, rfl, hO8, hs9⟩
 refine rl_nil <| run_seq <| run_seq <| run_region <| rl_v rfl rfl rfl (ov_fieldS rfl Tryz.underlying73 rfl (fo := 0) rfl (by kernel_rfl) rfl) ?_
 refine rl_v rfl rfl rfl (ov_load rfl Tryz.underlying64 rfl rfl (by exact hO8.cellL 2 rfl rfl)) ?_
 refine rl_v rfl rfl rfl (ov_len rfl Tryz.underlying64 rfl) <| rl_v rfl rfl rfl (ov_move rfl rfl) <| rl_nil <| run_block <| Run.keep [1, 2, 3, 7, 8] (F' := [(1, _), (2, _), (3, _), (7, _), (8, _)]) rfl <| run_loop2 (fun (k : Int) (g : Int → Int) => [(8, .int .i64 k)]) [1, 2, 3, 7] (fun (k : Int) (g : Int → Int) (w10 : World) => 0 ≤ k ∧ k ≤ n ∧ (∀ i : Int, 0 ≤ i → i < 32 → g i = if i < k then ow n D i else 0) ∧ Own w.heap.size w w10 [some (vch b3 132 32 (fun i => .int .i64 (g i))), some (vch b2 132 32 (fun _ => .int .i64 0)), some (lch b 73 [.slice ao n c, cash])]) (fun (k : Int) (g : Int → Int) => ((n : Int) - k).toNat) (0) (fun _ => 0) ?_ (And.intro (by exact slot_int rfl (by first | omega)) (And.intro rfl (And.intro rfl (And.intro rfl (And.intro rfl trivial))))) ?_
 ·exact ⟨by omega, by omega, fun i i0 i1 => by rw [if_neg (by omega)], hO8⟩
 intro k g w10 hIw10 ih11
 obtain ⟨hk0, hk1, hg, hO⟩ := hIw10
 show Run _ _ _ _ [(8, _), (1, _), (2, _), (3, _), (7, _)] _ _
 refine run_seq <| run_region <| rl_v rfl rfl rfl (ov_lss rfl rfl rfl) <| rl_nil <| run_seq ?_
 first | refine run_cond_dec rfl (fun h1 => ?_) (fun h1 => ?_) | refine run_cond rfl (fun h1 => ?_) (fun h1 => ?_)
 ·refine run_skip <| run_seq <| run_block <| run_seq <| run_region <| rl_v rfl rfl rfl (ov_move rfl rfl) <| rl_v rfl rfl rfl (ov_assign rfl rfl) <| rl_nil <| run_region <| rl_v rfl rfl rfl (ov_move rfl rfl) <| rl_v rfl rfl rfl (ov_loadW rfl Tryz.underlying73 rfl (by kernel_rfl) rfl hO 2 rfl) ?_
  refine rl_v rfl rfl rfl (ov_move rfl rfl) ?_
  refine rl_call callable_126 rfl rfl rfl rfl rfl rfl (netTotal_any ao n c D cash k _ hv hk0 h1 (h.later hO.below)) (fun e12 w13 hp14 => ?_)
  obtain ⟨rfl, hb⟩ := hp14
  refine ⟨_, rfl, ?_⟩
  have hO15 := hO.past hb
  refine rl_v rfl rfl rfl (ov_indexA1 rfl Tryz.underlying132 (by kernel_rfl) rfl rfl ⟨by omega, by omega⟩) ?_
  refine rl_ow rfl (ow_storeI rfl rfl (by kernel_rfl) hO15 0 rfl rfl ⟨by omega, by omega⟩ rfl) ?_
  rintro _ w16 ⟨rfl, hO17, hs18⟩
  refine rl_nil <| run_inBlock <| run_region <| rl_v rfl rfl rfl (ov_add rfl rfl rfl (by omega)) ?_
  refine rl_v rfl rfl rfl (ov_move rfl rfl) <| rl_nil ?_
  refine Run.use (ih11 (k + 1) (upd g k (ow n D k)) _ ?_ ?_) (And.intro (by exact slot_int rfl (by first | omega)) (And.intro rfl (And.intro rfl (And.intro rfl (And.intro rfl trivial)))))
  ·first | omega | (dsimp only; omega)
  ·exact ⟨by omega, by omega, fun i i0 i1 => by unfold upd; split; (rename_i e; rw [if_pos (by omega), e]); (rename_i e; rw [hg i i0 i1]; split <;> split <;> first | rfl | omega), hO17⟩
 ·refine run_exit rfl <| run_seq <| run_region <| rl_v rfl rfl rfl (ov_loadA rfl Tryz.underlying132 rfl (by kernel_rfl) rfl hO 0 rfl) ?_
  refine rl_ow rfl (ow_storeA rfl rfl (by kernel_rfl) hO 1 rfl rfl rfl (fun _ => rfl)) ?_
  rintro _ w19 ⟨rfl, hO20, hs21⟩
  refine rl_nil <| run_ret Tryz.func109 (resA Tryz.results109 rfl Tryz.underlying132 rfl (by kernel_rfl) hO20 1 rfl) ?_
  exact ⟨by congr 1; exact arrv_congr fun i i0 i1 => by rw [hg i i0 i1]; unfold upto; split <;> split <;> first | rfl | omega, hO20.below⟩
theorem step_up {n : Nat} {D : Int → Int → Int} {p o g2 : Int → Int} {k j x : Int} (hgj : g2 j = sm (fun i => p i * D i j / ow n D i) k) (hok : o k = ow n D k) (h2 : j < n) (hk0 : 0 ≤ k)
  (hg2 : g2 x = if x < n then sm (fun i => p i * D i x / ow n D i) (if x < j then k + 1 else k) else 0) :
  upd g2 j (g2 j + p k * D k j / o k) x = if x < n then sm (fun i => p i * D i x / ow n D i) (if x < j + 1 then k + 1 else k) else 0 := by
 unfold upd
 by_cases e : x = j
 ·subst e
  rw [if_pos rfl, if_pos h2, if_pos (by omega), sm_succ _ hk0, hgj, hok]
 ·rw [if_neg e, hg2]
  by_cases hx : x < n
  ·rw [if_pos hx, if_pos hx]
   by_cases hj : x < j
   ·rw [if_pos hj, if_pos (by omega)]
   ·rw [if_neg hj, if_neg (by omega)]
  ·rw [if_neg hx, if_neg hx]
theorem step_up0 {n : Nat} {D : Int → Int → Int} {p g2 : Int → Int} {k j x : Int} (hz : D k j = 0) (h2 : j < n) (hk0 : 0 ≤ k)
  (hg2 : g2 x = if x < n then sm (fun i => p i * D i x / ow n D i) (if x < j then k + 1 else k) else 0) :
  g2 x = if x < n then sm (fun i => p i * D i x / ow n D i) (if x < j + 1 then k + 1 else k) else 0 := by
 rw [hg2]
 by_cases e : x = j
 ·subst e
  rw [if_pos h2, if_pos h2, if_neg (by omega), if_pos (by omega), sm_succ _ hk0, hz]
  simp
 ·by_cases hx : x < n
  ·rw [if_pos hx, if_pos hx]
   by_cases hj : x < j
   ·rw [if_pos hj, if_pos (by omega)]
   ·rw [if_neg hj, if_neg (by omega)]
  ·rw [if_neg hx, if_neg hx]
theorem received_any (ao : Option Addr) (n c : Nat) (D : Int → Int → Int) (cash : Value) (p o : Int → Int) (w : World) (hv : Valid n D) (ho : ∀ i : Int, 0 ≤ i → i < n → o i = ow n D i) (hp : ∀ i : Int, 0 ≤ i → i < n → 0 ≤ p i ∧ p i ≤ ow n D i)
  (h : ITab w.heap.size w ao n (fun _ => n) (fun r c => .int .i64 (D r c))) :
  Calls Tryz.prog 129 #[.agg [.slice ao n c, cash].toArray, arrv 32 (fun i => .int .i64 (p i)), arrv 32 (fun i => .int .i64 (o i))] w fun e w' => e = .returned (arrv 32 (fun i => .int .i64 (upto n (rcv n D p) i))) ∧ Below w.heap.size w w' := by
 obtain ⟨A, C, RB, RO, gb, go, hga, hrow, hra, hel, _⟩ := h.open
 have hle := hv.le
 have hq := fun (i j : Int) (i0 : 0 ≤ i) (i1 : i < n) => quo_rng hv (p i) i j (hp i i0 i1).1 (hp i i0 i1).2
 have hsum : ∀ j k : Int, 0 ≤ k → k ≤ n → 0 ≤ sm (fun i => p i * D i j / ow n D i) k ∧ sm (fun i => p i * D i j / ow n D i) k ≤ k * 1000000 := fun j k k0 k1 =>
  ⟨sm_nonneg fun i i0 i1 => (hq i j i0 (by omega)).1, sm_bound _ k0 fun i i0 i1 => by have := (hq i j i0 (by omega)).2; have := hv.hi i j; omega⟩
 refine calls_of_run (F := [(0, _), (1, _), (2, _)]) Tryz.func129 rfl Tryz.ntmps129 rfl rfl ?_
 have hO0 := Own.init w
 refine run_seq <| run_region <| rl_ow rfl (ow_box _ rfl rfl rfl rfl rfl hO0) ?_
 rintro _ w1 ⟨b, rfl, hO2, hs3⟩
 refine rl_ow rfl (ow_boxA rfl rfl rfl rfl hO2) ?_
 rintro _ w4 ⟨bp, rfl, hO5, hs6⟩
 refine rl_ow rfl (ow_boxA rfl rfl rfl rfl hO5) ?_
 rintro _ w7 ⟨bo, rfl, hO8, hs9⟩
 refine rl_ow rfl (ow_allocA 32 rfl rfl rfl zero_132 rfl hO8) ?_
 rintro _ w10 ⟨b6, rfl, hO11, hs12⟩
 refine rl_nil <| run_seq <| run_region <| rl_ow rfl (ow_allocA 32 rfl rfl rfl zero_132 rfl hO11) ?_
 rintro _ w13 ⟨b7, rfl, hO14, hs15⟩
 refine rl_nil <| run_seq <| run_seq <| run_region <| rl_v rfl rfl rfl (ov_fieldS rfl Tryz.underlying73 rfl (fo := 0) rfl (by kernel_rfl) rfl) ?_
 refine rl_v rfl rfl rfl (ov_load rfl Tryz.underlying64 rfl rfl (by exact hO14.cellL 4 rfl rfl)) ?_
 refine rl_v rfl rfl rfl (ov_len rfl Tryz.underlying64 rfl) <| rl_v rfl rfl rfl (ov_move rfl rfl) <| rl_nil <| run_block <| Run.keep [4, 5, 6, 7, 17, 18, 19] (F' := [(4, _), (5, _), (6, _), (7, _), (17, _), (18, _), (19, _)]) rfl <| run_loop2 (fun (k : Int) (g : Int → Int) => [(19, .int .i64 k)]) [4, 5, 6, 7, 17, 18] (fun (k : Int) (g : Int → Int) (w16 : World) => 0 ≤ k ∧ k ≤ n ∧ (∀ j : Int, 0 ≤ j → j < 32 → g j = if j < n then sm (fun i => p i * D i j / ow n D i) k else 0) ∧ Own w.heap.size w w16 [some (vch b7 132 32 (fun i => .int .i64 (g i))), some (vch b6 132 32 (fun _ => .int .i64 0)), some (vch bo 132 32 (fun i => .int .i64 (o i))), some (vch bp 132 32 (fun i => .int .i64 (p i))), some (lch b 73 [.slice ao n c, cash])]) (fun (k : Int) (g : Int → Int) => ((n : Int) - k).toNat) (0) (fun _ => 0) ?_ (And.intro (by exact slot_int rfl (by first | omega)) (And.intro rfl (And.intro rfl (And.intro rfl (And.intro rfl (And.intro rfl (And.intro rfl trivial))))))) ?_
 ·exact ⟨by omega, by omega, fun i i0 i1 => by rw [sm_zero]; split <;> rfl, hO14⟩
 intro k g w16 hIw16 ih17
 obtain ⟨hk0, hk1, hg, hO⟩ := hIw16
 show Run _ _ _ _ [(19, _), (4, _), (5, _), (6, _), (7, _), (17, _), (18, _)] _ _
 refine run_seq <| run_region <| rl_v rfl rfl rfl (ov_lss rfl rfl rfl) <| rl_nil <| run_seq ?_
 first | refine run_cond_dec rfl (fun h1 => ?_) (fun h1 => ?_) | refine run_cond rfl (fun h1 => ?_) (fun h1 => ?_)
 ·refine run_skip <| run_seq <| run_block <| run_seq <| run_region <| rl_v rfl rfl rfl (ov_move rfl rfl) <| rl_v rfl rfl rfl (ov_index1 rfl Tryz.underlying64 (by kernel_rfl) rfl rfl ⟨by omega, by omega⟩ (by exact hga (by omega))) ?_
  refine rl_v rfl rfl rfl (ov_load rfl Tryz.underlying65 rfl rfl (by exact hrow _ hO.below _ (by omega) (by omega))) ?_
  refine rl_v rfl rfl rfl (ov_assign rfl rfl) <| rl_v rfl rfl rfl (ov_assign rfl rfl) <| rl_nil <| run_seq <| run_region <| rl_v rfl rfl rfl (ov_move rfl rfl) <| rl_v rfl rfl rfl (ov_len rfl Tryz.underlying65 rfl) <| rl_v rfl rfl rfl (ov_move rfl rfl) <| rl_nil <| run_block <| Run.keep [4, 5, 6, 7, 8, 17, 18, 19, 24, 25, 26] (F' := [(4, _), (5, _), (6, _), (7, _), (8, _), (17, _), (18, _), (19, _), (24, _), (25, _), (26, _)]) rfl <| run_loop2 (fun (j : Int) (g2 : Int → Int) => [(26, .int .i64 j)]) [4, 5, 6, 7, 8, 17, 18, 19, 24, 25] (fun (j : Int) (g2 : Int → Int) (w18 : World) => 0 ≤ j ∧ j ≤ n ∧ (∀ x : Int, 0 ≤ x → x < 32 → g2 x = if x < n then sm (fun i => p i * D i x / ow n D i) (if x < j then k + 1 else k) else 0) ∧ Own w.heap.size w w18 [some (vch b7 132 32 (fun i => .int .i64 (g2 i))), some (vch b6 132 32 (fun _ => .int .i64 0)), some (vch bo 132 32 (fun i => .int .i64 (o i))), some (vch bp 132 32 (fun i => .int .i64 (p i))), some (lch b 73 [.slice ao n c, cash])]) (fun (j : Int) (g2 : Int → Int) => ((n : Int) - j).toNat) (0) (g) ?_ (And.intro (by exact slot_int rfl (by first | omega)) (And.intro rfl (And.intro rfl (And.intro rfl (And.intro rfl (And.intro rfl (And.intro rfl (And.intro rfl (And.intro rfl (And.intro rfl (And.intro rfl trivial))))))))))) ?_
  ·exact ⟨by omega, by omega, fun x x0 x1 => by rw [hg x x0 x1, if_neg (show ¬ x < 0 by omega)], hO⟩
  intro j g2 w18 hIw18 ih19
  obtain ⟨hj0, hj1, hg2, hO2⟩ := hIw18
  show Run _ _ _ _ [(26, _), (4, _), (5, _), (6, _), (7, _), (8, _), (17, _), (18, _), (19, _), (24, _), (25, _)] _ _
  refine run_seq <| run_region <| rl_v rfl rfl rfl (ov_lss rfl rfl rfl) <| rl_nil <| run_seq ?_
  first | refine run_cond_dec rfl (fun h2 => ?_) (fun h2 => ?_) | refine run_cond rfl (fun h2 => ?_) (fun h2 => ?_)
  ·have hd0 := hv.lo k j
   have hd1 := hv.hi k j
   have hd2 := ow_ge hv k j hj0 h2
   have hpk := hp k hk0 h1
   have hok := ho k hk0 h1
   have hor := ow_rng hv k
   have hgj := hg2 j hj0 (by omega)
   rw [if_pos h2, if_neg (Int.lt_irrefl j)] at hgj
   have hs1 := hsum j k hk0 hk1
   have hq1 := hq k j hk0 h1
   have e1 : IntKind.u64.wrap (p k) = p k := IntWalk.u64_in _ (by omega)
   have e2 : IntKind.u64.wrap (D k j) = D k j := IntWalk.u64_in _ (by omega)
   have e3 : IntKind.u64.wrap (o k) = o k := IntWalk.u64_in _ (by omega)
   have hmul := mulb hpk.1 (show p k ≤ 32000000 by omega) hd0 hd1
   have e4 : IntKind.i64.wrap (p k * D k j / o k) = p k * D k j / o k := by rw [hok]; exact IntWalk.i64_in _ (by omega)
   refine run_skip <| run_seq <| run_block <| run_seq <| run_region <| rl_v rfl rfl rfl (ov_move rfl rfl) <| rl_v rfl rfl rfl (ov_index1 rfl Tryz.underlying65 (by kernel_rfl) rfl rfl ⟨by omega, by omega⟩ (by exact hra _ (by omega) (by omega) (by omega))) ?_
   refine rl_v rfl rfl rfl (ov_load rfl Tryz.underlying2 rfl rfl (by exact hel _ hO2.below _ (by omega) (by omega) _ (by omega) (by omega))) ?_
   refine rl_v rfl rfl rfl (ov_assign rfl rfl) <| rl_v rfl rfl rfl (ov_assign rfl rfl) <| rl_nil <| run_seq <| run_region <| rl_v rfl rfl rfl (ov_move rfl rfl) <| rl_v rfl rfl rfl (ov_gtr rfl rfl rfl) <| rl_nil ?_
   first | refine run_cond_dec rfl (fun h3 => ?_) (fun h3 => ?_) | refine run_cond rfl (fun h3 => ?_) (fun h3 => ?_)
   ·refine run_seq <| run_region <| rl_v rfl rfl rfl (ov_move rfl rfl) <| rl_v rfl rfl rfl (ov_indexA1 rfl Tryz.underlying132 (by kernel_rfl) rfl rfl ⟨by omega, by omega⟩) ?_
    refine rl_v rfl rfl rfl (ov_load rfl Tryz.underlying2 rfl rfl (by exact hO2.cellI 3 rfl _ (by omega) (by omega))) ?_
    refine rl_v rfl rfl rfl (ov_convTo (e1) rfl Tryz.underlying2 Tryz.underlying106 rfl) <| rl_v rfl rfl rfl (ov_move rfl rfl) <| rl_v rfl rfl rfl (ov_convTo (e2) rfl Tryz.underlying2 Tryz.underlying106 rfl) ?_
    refine rl_call callable_131 rfl rfl rfl rfl rfl rfl (mul64K_any (p k) (D k j) _ (by omega) (by omega)) (fun e20 w21 hp22 => ?_)
    obtain ⟨rfl, hb⟩ := hp22
    refine ⟨_, rfl, ?_⟩
    have hO23 := hO2.past hb
    refine rl_v rfl rfl rfl (ov_move rfl rfl) <| rl_v rfl rfl rfl (ov_extract rfl rfl (by rfl)) ?_
    refine rl_v rfl rfl rfl (ov_extract rfl rfl (by rfl)) ?_
    refine rl_v rfl rfl rfl (ov_assign rfl rfl) <| rl_v rfl rfl rfl (ov_assign rfl rfl) <| rl_nil <| run_seq <| run_region <| rl_v rfl rfl rfl (ov_move rfl rfl) <| rl_v rfl rfl rfl (ov_move rfl rfl) <| rl_v rfl rfl rfl (ov_move rfl rfl) <| rl_v rfl rfl rfl (ov_indexA1 rfl Tryz.underlying132 (by kernel_rfl) rfl rfl ⟨by omega, by omega⟩) ?_
    refine rl_v rfl rfl rfl (ov_load rfl Tryz.underlying2 rfl rfl (by exact hO23.cellI 2 rfl _ (by omega) (by omega))) ?_
    refine rl_v rfl rfl rfl (ov_convTo (e3) rfl Tryz.underlying2 Tryz.underlying106 rfl) ?_
    refine rl_call callable_154 rfl rfl rfl rfl rfl rfl (div64K_any (p k * D k j) (o k) _ (by omega) (by omega)) (fun e24 w25 hp26 => ?_)
    obtain ⟨rfl, hb2⟩ := hp26
    refine ⟨_, rfl, ?_⟩
    have hO27 := hO23.past hb2
    refine rl_v rfl rfl rfl (ov_move rfl rfl) <| rl_v rfl rfl rfl (ov_extract rfl rfl (by rfl)) ?_
    refine rl_v rfl rfl rfl (ov_extract rfl rfl (by rfl)) ?_
    refine rl_v rfl rfl rfl (ov_assign rfl rfl) <| rl_v rfl rfl rfl (ov_assign rfl rfl) <| rl_nil <| run_region <| rl_v rfl rfl rfl (ov_move rfl rfl) <| rl_v rfl rfl rfl (ov_indexA1 rfl Tryz.underlying132 (by kernel_rfl) rfl rfl ⟨by omega, by omega⟩) ?_
    refine rl_v rfl rfl rfl (ov_load rfl Tryz.underlying2 rfl rfl (by exact hO27.cellI 0 rfl _ (by omega) (by omega))) ?_
    refine rl_v rfl rfl rfl (ov_move rfl rfl) <| rl_v rfl rfl rfl (ov_convTo (e4) rfl Tryz.underlying106 Tryz.underlying2 rfl) <| rl_v rfl rfl rfl (ov_add rfl rfl rfl (by rw [hgj, hok]; omega)) ?_
    refine rl_v rfl rfl rfl (ov_indexA1 rfl Tryz.underlying132 (by kernel_rfl) rfl rfl ⟨by omega, by omega⟩) ?_
    refine rl_ow rfl (ow_storeI rfl rfl (by kernel_rfl) hO27 0 rfl rfl ⟨by omega, by omega⟩ rfl) ?_
    rintro _ w28 ⟨rfl, hO29, hs30⟩
    refine rl_nil <| run_inBlock <| run_region <| rl_v rfl rfl rfl (ov_add rfl rfl rfl (by omega)) ?_
    refine rl_v rfl rfl rfl (ov_move rfl rfl) <| rl_nil ?_
    refine Run.use (ih19 (j + 1) (upd g2 j (g2 j + p k * D k j / o k)) _ ?_ ?_) (And.intro (by exact slot_int rfl (by first | omega)) (And.intro rfl (And.intro rfl (And.intro rfl (And.intro rfl (And.intro rfl (And.intro rfl (And.intro rfl (And.intro rfl (And.intro rfl (And.intro rfl trivial)))))))))))
    ·first | omega | (dsimp only; omega)
    ·exact ⟨by omega, by omega, fun x x0 x1 => step_up hgj hok h2 hk0 (hg2 x x0 x1), hO29⟩
   ·refine run_skip <| run_inBlock <| run_region <| rl_v rfl rfl rfl (ov_add rfl rfl rfl (by omega)) ?_
    refine rl_v rfl rfl rfl (ov_move rfl rfl) <| rl_nil ?_
    refine Run.use (ih19 (j + 1) (g2) _ ?_ ?_) (And.intro (by exact slot_int rfl (by first | omega)) (And.intro rfl (And.intro rfl (And.intro rfl (And.intro rfl (And.intro rfl (And.intro rfl (And.intro rfl (And.intro rfl (And.intro rfl (And.intro rfl trivial)))))))))))
    ·first | omega | (dsimp only; omega)
    ·exact ⟨by omega, by omega, fun x x0 x1 => step_up0 (by omega) h2 hk0 (hg2 x x0 x1), hO2⟩
  ·obtain rfl : j = n := by omega
   refine run_exit rfl <| run_inBlock <| run_region <| rl_v rfl rfl rfl (ov_add rfl rfl rfl (by omega)) ?_
   refine rl_v rfl rfl rfl (ov_move rfl rfl) <| rl_nil ?_
   refine Run.use (ih17 (k + 1) (g2) _ ?_ ?_) (And.intro (by exact slot_int rfl (by first | omega)) (And.intro rfl (And.intro rfl (And.intro rfl (And.intro rfl (And.intro rfl (And.intro rfl trivial)))))))
   ·first | omega | (dsimp only; omega)
   ·exact ⟨by omega, by omega, fun x x0 x1 => by rw [hg2 x x0 x1]; by_cases hx : x < (n : Int) <;> simp [hx], hO2⟩
 ·refine run_exit rfl <| run_seq <| run_region <| rl_v rfl rfl rfl (ov_loadA rfl Tryz.underlying132 rfl (by kernel_rfl) rfl hO 0 rfl) ?_
  refine rl_ow rfl (ow_storeA rfl rfl (by kernel_rfl) hO 1 rfl rfl rfl (fun _ => rfl)) ?_
  rintro _ w31 ⟨rfl, hO32, hs33⟩
  refine rl_nil <| run_ret Tryz.func129 (resA Tryz.results129 rfl Tryz.underlying132 rfl (by kernel_rfl) hO32 1 rfl) ?_
  exact ⟨by congr 1; exact arrv_congr fun i i0 i1 => by rw [hg i i0 i1]; unfold upto rcv; rw [show k = (n : Int) by omega]; split <;> split <;> first | rfl | omega, hO32.below⟩
end Go.Proofs.YtlldeifbfpmbaaaGreat
