import Derived.Test.YtbcjfjldmfljgaaGreatPrM
import Derived.Test.YtbcjfjldmfljgaaGreatHlK
import Derived.Test.YtbcjfjldmfljgaaGreatFoB
set_option maxRecDepth 100000
namespace Go.Proofs.YtbcjfjldmfljgaaGreat
open Go.RowKit Go.Proofs Go.MapKept
theorem notWorthU_any (x : Int) (w : World) (hx : W9 x) : Calls Tryz.prog 12 #[iv x] w fun e w' => e = .returned (.bool false) ∧ Own w.heap.size w w' [] := by
 refine calls_of_run (F := [(0, _)]) Tryz.func12 rfl Tryz.ntmps12 rfl rfl ?_
 have hO0 := Own.init w
 refine run_seq <| run_region <| rl_v rfl rfl rfl (ov_assign rfl rfl) <| rl_nil <| run_seq <| run_region <| rl_v rfl rfl rfl (ov_move rfl rfl) ?_
 refine rl_call callable_13 rfl rfl rfl rfl rfl rfl (isWorthH_any x _ hx) (fun e1 w2 hp3 => ?_)
 obtain ⟨rfl, hOa⟩ := hp3
 refine ⟨_, rfl, ?_⟩
 have hO4 := hO0.join hOa
 refine rl_v rfl rfl rfl (ov_not rfl rfl) <| rl_v rfl rfl rfl (ov_assign rfl rfl) <| rl_nil <| run_ret Tryz.func12 (res1 Tryz.results12 rfl) ?_
 exact ⟨rfl, hO4⟩
theorem indexU_any (ao : Option Addr) (n c : Nat) (q : Int → Int) (w : World) (hn : n ≤ 1000) (h : IAt w.heap.size w ao n (fun i => iv (q i))) (hq : ∀ i : Int, 0 ≤ i → i < n → W9 (q i)) :
  Calls Tryz.prog 31 #[.slice ao n c, .func (.func 12) #[] #[]] w fun e w' => e = .returned (iv (-1)) ∧ Own w.heap.size w w' [] := by
 obtain ⟨gb, go, hga, hrow⟩ := h.open
 refine calls_of_run (F := [(0, _), (1, _)]) Tryz.func31 rfl Tryz.ntmps31 rfl rfl ?_
 have hO0 := Own.init w
 refine run_seq <| run_region <| rl_v rfl rfl rfl (ov_assign rfl rfl) <| rl_nil <| run_seq <| run_seq <| run_region <| rl_v rfl rfl rfl (ov_move rfl rfl) <| rl_v rfl rfl rfl (ov_len rfl Tryz.underlying22 rfl) <| rl_v rfl rfl rfl (ov_move rfl rfl) <| rl_nil <| run_block <| Run.keep [0, 1, 7, 8] (F' := [(0, _), (1, _), (7, _), (8, _)]) rfl <| run_loop1 (fun (k : Nat) => [(8, .int .i64 (k : Int))]) [0, 1, 7] (fun (k : Nat) (w1 : World) => k ≤ n ∧ Own w.heap.size w w1 []) (fun (k : Nat) => n - k) (0) ?_ (And.intro (by exact slot_int rfl (by first | omega)) (And.intro rfl (And.intro rfl (And.intro rfl trivial)))) ?_
 ·exact ⟨Nat.zero_le _, hO0⟩
 intro k w1 hIw1 ih2
 obtain ⟨hk, hO⟩ := hIw1
 show Run _ _ _ _ [(8, _), (0, _), (1, _), (7, _)] _ _
 refine run_seq <| run_region <| rl_v rfl rfl rfl (ov_lss rfl rfl rfl) <| rl_nil <| run_seq ?_
 first | refine run_cond_dec rfl (fun h1 => ?_) (fun h1 => ?_) | refine run_cond rfl (fun h1 => ?_) (fun h1 => ?_)
 ·refine run_skip <| run_seq <| run_block <| run_seq <| run_region <| rl_v rfl rfl rfl (ov_move rfl rfl) <| rl_v rfl rfl rfl (ov_assign rfl rfl) <| rl_nil <| run_seq <| run_region <| rl_v rfl rfl rfl (ov_move rfl rfl) <| rl_v rfl rfl rfl (ov_move rfl rfl) <| rl_v rfl rfl rfl (ov_move rfl rfl) <| rl_v rfl rfl rfl (ov_index1 rfl Tryz.underlying22 (by kernel_rfl) rfl rfl ⟨by omega, by omega⟩ (by exact hga (by omega))) ?_
  refine rl_v rfl rfl rfl (ov_load rfl Tryz.underlying2 rfl rfl (by exact hrow _ hO.below k (by omega) h1)) ?_
  refine rl_call callable_12 rfl rfl rfl rfl rfl rfl (notWorthU_any (q k) _ (hq k (by omega) h1)) (fun e3 w4 hp5 => ?_)
  obtain ⟨rfl, hbl⟩ := hp5
  refine ⟨_, rfl, ?_⟩
  have hO6 := hO.join hbl
  refine rl_nil ?_
  first | refine run_cond_dec rfl (fun h2 => ?_) (fun h2 => ?_) | refine run_cond rfl (fun h2 => ?_) (fun h2 => ?_)
  ·exfalso; (exact Bool.noConfusion h2)
  ·refine run_skip <| run_inBlock <| run_region <| rl_v rfl rfl rfl (ov_add rfl rfl rfl (by omega)) ?_
   refine rl_v rfl rfl rfl (ov_move rfl rfl) <| rl_nil ?_
   refine Run.use (ih2 (k + 1) _ ?_ ?_) (And.intro (by exact slot_int rfl (by first | omega)) (And.intro rfl (And.intro rfl (And.intro rfl trivial))))
   ·first | omega | (dsimp only; omega)
   ·exact ⟨by omega, hO6⟩
 ·refine run_exit rfl <| run_seq <| run_region <| rl_v rfl rfl rfl (ov_assign rfl rfl) <| rl_nil <| run_ret Tryz.func31 (res1 Tryz.results31 rfl) ?_
  exact ⟨rfl, hO⟩
theorem containsU_any (ao : Option Addr) (n c : Nat) (q : Int → Int) (w : World) (hn : n ≤ 1000) (h : IAt w.heap.size w ao n (fun i => iv (q i))) (hq : ∀ i : Int, 0 ≤ i → i < n → W9 (q i)) :
  Calls Tryz.prog 11 #[.slice ao n c, .func (.func 12) #[] #[]] w fun e w' => e = .returned (.bool false) ∧ Own w.heap.size w w' [] := by
 refine calls_of_run (F := [(0, _), (1, _)]) Tryz.func11 rfl Tryz.ntmps11 rfl rfl ?_
 have hO0 := Own.init w
 refine run_seq <| run_region <| rl_v rfl rfl rfl (ov_assign rfl rfl) <| rl_nil <| run_seq <| run_region <| rl_v rfl rfl rfl (ov_move rfl rfl) <| rl_v rfl rfl rfl (ov_move rfl rfl) ?_
 refine rl_call callable_31 rfl rfl rfl rfl rfl rfl (indexU_any ao n c q _ hn h hq) (fun e1 w2 hp3 => ?_)
 obtain ⟨rfl, hbl⟩ := hp3
 refine ⟨_, rfl, ?_⟩
 have hO4 := hO0.join hbl
 refine rl_v rfl rfl rfl (ov_geq rfl rfl rfl) <| rl_v rfl rfl rfl (ov_assign rfl rfl) <| rl_nil <| run_ret Tryz.func11 (res1 Tryz.results11 rfl) ?_
 exact ⟨rfl, hO4⟩
theorem uni2_any (la : Option Addr) (lc b2 N B : Nat) (v : Int → Int) (Y : Int → Int) (q : Nat) (w0 : World) (K : List (Option Blk)) (x : Option Blk) (hv : ∀ i : Int, 0 ≤ i → i < N → 1 ≤ v i ∧ v i ≤ 100000) (hl : IAt B w0 la N (fun i => iv (v i))) (hY : ∀ i : Int, 0 ≤ i → i < q → 0 ≤ Y i ∧ Y i < N) :
  CmpS 15 #[ptr b2] (fun i => -(v i)) Y q B w0 (x :: some (lch b2 22 [.slice la N lc]) :: K) := fun a b w ⟨i, hi, ei⟩ ⟨j, hj, ej⟩ hO => by
 have ha := hY i hi.1 hi.2
 have hb := hY j hj.1 hj.2
 rw [ei] at ha
 rw [ej] at hb
 have hpa := hv a ha.1 ha.2
 have hpb := hv b hb.1 hb.2
 have h2 := hO.cellOld 1 rfl (off := 0) rfl
 obtain ⟨lb, lo, hla, hlr⟩ := (hO.iatU hl).open
 have hca := hlr w (Below.refl _ _) a ha.1 ha.2
 have hcb := hlr w (Below.refl _ _) b hb.1 hb.2
 have hc2 := h2 w (Below.refl _ _)
 refine calls_of_run (F := [(0, _), (1, _), (2, _)]) Tryz.func15 rfl Tryz.ntmps15 rfl rfl ?_
 have hO0 := Own.init w
 refine run_seq <| run_region <| rl_v rfl rfl rfl (ov_assign rfl rfl) <| rl_nil <| run_seq <| run_quiet mixed (by kernel_rfl) ?_
 refine rq_v rfl rfl rfl (fun _ => ov_load rfl Tryz.underlying22 rfl rfl (by show World.cell? w _ = _; first | exact id hc2)) ?_
 refine rq_v rfl rfl rfl (fun _ => ov_move rfl rfl) ?_
 refine rq_v rfl rfl rfl (fun _ => ov_index1 rfl Tryz.underlying22 (by kernel_rfl) rfl rfl ⟨by omega, by omega⟩ (by exact hla (by omega))) ?_
 refine rq_v rfl rfl rfl (fun _ => ov_load rfl Tryz.underlying2 rfl rfl (by show World.cell? w _ = _; first | exact id hcb)) ?_
 refine rq_v rfl rfl rfl (fun _ => ov_load rfl Tryz.underlying22 rfl rfl (by show World.cell? w _ = _; first | exact id hc2)) ?_
 refine rq_v rfl rfl rfl (fun _ => ov_move rfl rfl) ?_
 refine rq_v rfl rfl rfl (fun _ => ov_index1 rfl Tryz.underlying22 (by kernel_rfl) rfl rfl ⟨by omega, by omega⟩ (by exact hla (by omega))) ?_
 refine rq_v rfl rfl rfl (fun _ => ov_load rfl Tryz.underlying2 rfl rfl (by show World.cell? w _ = _; first | exact id hca)) ?_
 refine rq_v rfl rfl rfl (fun _ => ov_sub rfl rfl rfl (by omega)) ?_
 refine rq_v rfl rfl rfl (fun _ => ov_assign rfl rfl) ?_
 refine rq_nil (fun n1 => ?_)
 have hO3 := hO0.drewN n1
 generalize World.drewN w n1 = w2 at hO3 ⊢
 refine run_ret Tryz.func15 (res1 Tryz.results15 rfl) ?_
 exact ⟨congrArg (fun z => Ending.returned (iv z)) (show v b - v a = -(v a) - -(v b) by omega), hO3⟩
set_option maxHeartbeats 8000000 in
theorem uniform_any (la : Option Addr) (lc N n : Nat) (v : Int → Int) (w : World) (hN : 1 ≤ N ∧ N ≤ 8) (hn : 1 ≤ n ∧ n ≤ 8) (hv : ∀ i : Int, 0 ≤ i → i < N → 1 ≤ v i ∧ v i ≤ 100000) (hd : ∀ a b : Int, 0 ≤ a → a < N → 0 ≤ b → b < N → v a = v b → a = b) (hl : IAt w.heap.size w la N (fun i => iv (v i))) :
  Calls Tryz.prog 6 #[.slice la N lc, iv n] w fun e w' => ∃ (Z I : Int → Int) (wa : Option Addr) (m mc : Nat) (c : Option Blk), e = .returned (.tuple #[.slice wa m mc, iv (pri N n v Z), iv 0]) ∧ Bds N v Z ∧ (m : Int) = min (N : Int) n ∧ Rise m I ∧ (∀ i : Int, (∃ j : Int, (0 ≤ j ∧ j < m) ∧ I j = i) ↔ (0 ≤ i ∧ i < N) ∧ pri N n v Z < v i) ∧ IRow (.slice wa m mc) 3 m (fun j => iv (I j)) c ∧ Own w.heap.size w w' [c] := by
 obtain ⟨lb, lo, hla, hlr⟩ := hl.open
 refine calls_of_run (F := [(0, _), (1, _)]) Tryz.func6 rfl Tryz.ntmps6 rfl rfl ?_
 have hO0 := Own.init w
 refine run_seq <| run_region <| rl_ow rfl (ow_box _ rfl rfl rfl rfl rfl hO0) ?_
 rintro _ w1 ⟨b2, rfl, hO2, hs3⟩
 refine rl_v rfl rfl rfl (ov_assign rfl rfl) <| rl_v rfl rfl rfl (ov_assign rfl rfl) <| rl_v rfl rfl rfl (ov_assign rfl rfl) <| rl_nil <| run_seq <| run_seq <| run_region <| rl_v rfl rfl rfl (ov_load rfl Tryz.underlying22 rfl rfl (by exact hO2.cellL 0 rfl (off := 0) rfl)) ?_
 refine rl_v rfl rfl rfl (ov_len rfl Tryz.underlying22 rfl) <| rl_v rfl rfl rfl (ov_gtr rfl rfl rfl) <| rl_nil ?_
 first | refine run_cond_dec rfl (fun c1 => ?_) (fun c1 => ?_) | refine run_cond rfl (fun c1 => ?_) (fun c1 => ?_)
 ·exfalso; omega
 ·refine run_skip <| run_seq <| run_seq <| run_region <| rl_v rfl rfl rfl (ov_move rfl rfl) <| rl_v rfl rfl rfl (ov_lss rfl rfl rfl) <| rl_v rfl rfl rfl (ov_move rfl rfl) ?_
  first | refine rl_noD 14 rfl ((by omega)) ?_ | refine rl_no 14 rfl ((by omega)) ?_
  refine rl_gv rfl rfl rfl rfl rfl (ov_move rfl rfl) <| rl_gv rfl rfl rfl rfl rfl (ov_gtr rfl rfl rfl) <| rl_v rfl rfl rfl (ov_pick_f rfl rfl rfl) <| rl_v rfl rfl rfl (ov_move rfl rfl) ?_
  first | refine rl_noD 18 rfl ((by omega)) ?_ | refine rl_no 18 rfl ((by omega)) ?_
  refine rl_gv rfl rfl rfl rfl rfl (ov_load rfl Tryz.underlying22 rfl rfl (by exact hO2.cellL 0 rfl (off := 0) rfl)) ?_
  refine rl_gcall callable_11 rfl rfl rfl rfl rfl rfl rfl rfl (containsU_any la N lc v _ (by omega) (hO2.iatU hl) (fun i i0 i1 => by have := hv i i0 i1; unfold W9; omega)) (fun e4 w5 hp6 => ?_)
  obtain ⟨rfl, hOb⟩ := hp6
  refine ⟨_, rfl, ?_⟩
  have hO7 := hO2.join hOb
  refine rl_v rfl rfl rfl (ov_pick_f rfl rfl rfl) <| rl_nil ?_
  first | refine run_cond_dec rfl (fun c2 => ?_) (fun c2 => ?_) | refine run_cond rfl (fun c2 => ?_) (fun c2 => ?_)
  ·exfalso; (exact Bool.noConfusion c2)
  ·refine run_skip <| run_seq <| run_region <| rl_v rfl rfl rfl (ov_load rfl Tryz.underlying22 rfl rfl (by exact hO7.cellL 0 rfl (off := 0) rfl)) ?_
   refine rl_v rfl rfl rfl (ov_len rfl Tryz.underlying22 rfl) ?_
   refine rl_make (N) rfl rfl rfl rfl Tryz.underlying30 info_3 rfl hO7 rfl rfl (by rfl) (by rfl) ⟨by omega, by omega⟩ (fun ob w8 hO9 hs10 => ?_)
   refine rl_v rfl rfl rfl (ov_assign rfl rfl) <| rl_nil <| run_seq <| run_seq <| run_region <| rl_v rfl rfl rfl (ov_move rfl rfl) <| rl_v rfl rfl rfl (ov_len rfl Tryz.underlying30 rfl) <| rl_v rfl rfl rfl (ov_move rfl rfl) <| rl_nil <| run_block <| Run.keep [1, 2, 5, 7, 26, 27] (F' := [(1, _), (2, _), (5, _), (7, _), (26, _), (27, _)]) rfl <| run_loop1 (fun (i : Nat) => [(27, .int .i64 (i : Int))]) [1, 2, 5, 7, 26] (fun (i : Nat) (w11 : World) => i ≤ N ∧ Own w.heap.size w w11 (some (vch ob 3 N (fun x => iv (if x < i then x else 0))) :: some (lch b2 22 [.slice la N lc]) :: [])) (fun (i : Nat) => N - i) (0) ?_ (And.intro (by exact slot_int rfl (by first | omega)) (And.intro rfl (And.intro rfl (And.intro rfl (And.intro rfl (And.intro rfl trivial)))))) ?_
   ·exact ⟨Nat.zero_le _, hO9.congrI 0 rfl fun x x0 x1 => by rw [if_neg (by omega)]⟩
   intro i w11 hIw11 ih12
   obtain ⟨hi, hO1⟩ := hIw11
   show Run _ _ _ _ [(27, _), (1, _), (2, _), (5, _), (7, _), (26, _)] _ _
   refine run_seq <| run_region <| rl_v rfl rfl rfl (ov_lss rfl rfl rfl) <| rl_nil <| run_seq ?_
   first | refine run_cond_dec rfl (fun c3 => ?_) (fun c3 => ?_) | refine run_cond rfl (fun c3 => ?_) (fun c3 => ?_)
   ·refine run_skip <| run_seq <| run_block <| run_seq <| run_region <| rl_v rfl rfl rfl (ov_move rfl rfl) <| rl_v rfl rfl rfl (ov_assign rfl rfl) <| rl_nil <| run_region <| rl_v rfl rfl rfl (ov_move rfl rfl) <| rl_v rfl rfl rfl (ov_move rfl rfl) <| rl_v rfl rfl rfl (ov_move rfl rfl) <| rl_v rfl rfl rfl (ov_index1 rfl Tryz.underlying30 (by kernel_rfl) rfl rfl ⟨by omega, by omega⟩ rfl) ?_
    refine rl_ow rfl (ow_store rfl rfl (by kernel_rfl) hO1 0 rfl rfl ⟨by omega, by omega⟩ rfl rfl) ?_
    rintro _ w13 ⟨rfl, hO14, hs15⟩
    have hOs := hO14.congrI 0 rfl (G' := fun x => iv (if x < ((i + 1 : Nat) : Int) then x else 0)) (fun x _ _ => by
     by_cases e : x = (i : Int)
     ·rw [e, upd_same, if_pos (by omega)]
     ·rw [upd_ne _ _ e]
      by_cases e2 : x < (i : Int)
      ·rw [if_pos e2, if_pos (by omega)]
      ·rw [if_neg e2, if_neg (by omega)])
    refine rl_nil <| run_inBlock <| run_region <| rl_v rfl rfl rfl (ov_add rfl rfl rfl (by omega)) ?_
    refine rl_v rfl rfl rfl (ov_move rfl rfl) <| rl_nil ?_
    refine Run.use (ih12 (i + 1) _ ?_ ?_) (And.intro (by exact slot_int rfl (by first | omega)) (And.intro rfl (And.intro rfl (And.intro rfl (And.intro rfl (And.intro rfl trivial))))))
    ·first | omega | (dsimp only; omega)
    ·exact ⟨by omega, hOs⟩
   ·have hiN : i = N := by omega
    subst hiN
    have hro : IRow (.slice (some ⟨ob, 0, none⟩) i i) 3 i (fun x => iv x) (some (vch ob 3 i (fun x => iv (if x < (i : Int) then x else 0)))) := IRow.ofV (Nat.le_refl _) (by unfold maxLen; omega) (fun x _ x1 => by rw [if_pos x1])
    refine run_exit rfl <| run_seq <| run_region <| rl_v rfl rfl rfl (ov_move rfl rfl) <| rl_v rfl rfl rfl (ov_func rfl rfl rfl) ?_
    refine rl_call callable_14 rfl rfl rfl rfl rfl rfl (sortStableR7_any 15 callable_15 #[ptr b2] (fun i => -(v i)) (fun i => i) (some ⟨ob, 0, none⟩) i i w.heap.size _ _ w w11 hro hO1 (fun x => uni2_any la lc b2 i _ v (fun i => i) i w _ x hv hl fun i a b => ⟨a, b⟩) (by omega) (fun a b a0 ab b1 => ab)) (fun e16 w17 hp18 => ?_)
    obtain ⟨rfl, Z, cZ, hrZ, hZ, hOf⟩ := hp18
    refine ⟨_, rfl, ?_⟩
    have hB := Bds.of hZ hd (fun i a b => (hv i a b).1)
    obtain ⟨m, hm⟩ : ∃ m : Nat, (m : Int) = min (n : Int) (i : Int) := ⟨min n i, by omega⟩
    obtain ⟨o2, G2, ho2, hc1, hc2, rfl, hG2⟩ := hrZ.asV hN.1
    cases ho2
    refine rl_nil <| run_seq <| run_region <| rl_v rfl rfl rfl (ov_move rfl rfl) <| rl_v rfl rfl rfl (ov_move rfl rfl) <| rl_v rfl rfl rfl (ov_load rfl Tryz.underlying22 rfl rfl (by exact hOf.cellL 1 rfl (off := 0) rfl)) ?_
    refine rl_v rfl rfl rfl (ov_len rfl Tryz.underlying22 rfl) <| rl_v rfl rfl rfl (ov_min rfl rfl rfl) <| rl_v rfl rfl rfl (ov_sliceH (m) (s := 1) rfl Tryz.underlying30 (by kernel_rfl) rfl rfl (by omega) (by omega)) ?_
    refine rl_v rfl rfl rfl (ov_assign rfl rfl) <| rl_nil <| run_seq <| run_seq <| run_region <| rl_v rfl rfl rfl (ov_load rfl Tryz.underlying22 rfl rfl (by exact hOf.cellL 1 rfl (off := 0) rfl)) ?_
    refine rl_v rfl rfl rfl (ov_len rfl Tryz.underlying22 rfl) <| rl_v rfl rfl rfl (ov_move rfl rfl) <| rl_v rfl rfl rfl (ov_gtr rfl rfl rfl) <| rl_nil <| Run.keep [1, 2, 4, 5, 7, 47] (F' := [(1, _), (2, _), (4, _), (5, _), (7, _), (47, _)]) rfl <| run_join1 (fun (p : Int) => [(5, .int .i64 p)]) [4] (fun (p : Int) (w19 : World) => p = pri i n v Z ∧ Own w.heap.size w w19 (some (vch ob 3 i G2) :: some (lch b2 22 [.slice la i lc]) :: [])) (fun hk20 => ?_) ?_
    ·first | refine run_cond_dec rfl (fun c4 => ?_) (fun c4 => ?_) | refine run_cond rfl (fun c4 => ?_) (fun c4 => ?_)
     ·have hzr := hB.rng n (by omega) c4
      have hcb := hOf.cellL 1 rfl (off := 0) rfl
      have hco := (hOf.cellI 0 rfl n (by omega) (by omega)).trans (congrArg some (hG2 n (by omega) (by omega)))
      have hcv := hlr _ hOf.below (Z n) hzr.1 hzr.2
      refine run_quiet mixed (by kernel_rfl) ?_
      refine rq_v rfl rfl rfl (fun _ => ov_load rfl Tryz.underlying22 rfl rfl (by show World.cell? w17 _ = _; first | exact id hcb)) ?_
      refine rq_v rfl rfl rfl (fun _ => ov_move rfl rfl) ?_
      refine rq_v rfl rfl rfl (fun _ => ov_move rfl rfl) ?_
      refine rq_v rfl rfl rfl (fun _ => ov_index1 rfl Tryz.underlying30 (by kernel_rfl) rfl rfl ⟨by omega, by omega⟩ (by rfl)) ?_
      refine rq_v rfl rfl rfl (fun _ => ov_load rfl Tryz.underlying3 rfl rfl (by show World.cell? w17 _ = _; first | exact id hco)) ?_
      refine rq_v rfl rfl rfl (fun _ => ov_index1 rfl Tryz.underlying22 (by kernel_rfl) rfl rfl ⟨by omega, by omega⟩ (by exact hla (by omega))) ?_
      refine rq_v rfl rfl rfl (fun _ => ov_load rfl Tryz.underlying2 rfl rfl (by show World.cell? w17 _ = _; first | exact id hcv)) ?_
      refine rq_v rfl rfl rfl (fun _ => ov_assign rfl rfl) ?_
      refine rq_nil (fun n21 => ?_)
      have hO23 := hOf.drewN n21
      generalize World.drewN w17 n21 = w22 at hO23 ⊢
      refine Run.use (hk20 (v (Z n)) _ ?_) (And.intro (by exact slot_int rfl (by first | omega)) (And.intro rfl trivial))
      exact ⟨by unfold pri; rw [if_pos (by omega)], hO23⟩
     ·refine run_skip ?_
      refine Run.use (hk20 (0) _ ?_) (And.intro (by exact slot_int rfl (by first | omega)) (And.intro rfl trivial))
      exact ⟨by unfold pri; rw [if_neg (by omega)], hOf⟩
    ·intro p w19 hJw19
     obtain ⟨hp, hO2⟩ := hJw19
     show Run _ _ _ _ [(5, _), (4, _)] _ _
     subst hp
     refine run_seq <| run_region <| rl_v rfl rfl rfl (ov_move rfl rfl) ?_
     refine rl_call callable_16 rfl rfl rfl rfl rfl rfl (clone5_any (some ⟨ob, 0, none⟩) m i Z _ (by omega) (IAt.congr (hO2.reads 0 rfl m (show m ≤ i by omega)) fun x a b => hG2 x a (by omega))) (fun e24 w25 hp26 => ?_)
     obtain ⟨vc, cc, rfl, hrc, hOc⟩ := hp26
     refine ⟨_, rfl, ?_⟩
     have hO27 := hO2.join hOc
     obtain ⟨ac, kc, rfl⟩ := Row.val hrc
     obtain ⟨o3, G3, rfl, hc3, hc4, rfl, hG3⟩ := hrc.asV (by omega)
     have hS5 : SrtS5 m Z Z G3 := ⟨hG3, fun a b a0 a1 b0 b1 e => hB.inj a0 (by omega) b0 (by omega) (by rw [e]), fun _ => Iff.rfl⟩
     refine rl_v rfl rfl rfl (ov_assign rfl rfl) <| rl_nil <| run_seq <| run_region <| rl_v rfl rfl rfl (ov_move rfl rfl) ?_
     refine rl_call callable_17 rfl rfl rfl rfl rfl rfl (sort5_any o3 kc m _ G3 Z _ _ _ (by omega) hc3 hS5 hO27) (fun e28 w29 hp30 => ?_)
     obtain ⟨rfl, G4, I, hO5, hS6, hI⟩ := hp30
     refine ⟨_, rfl, ?_⟩
     have hIr : IRow (.slice (some ⟨o3, 0, none⟩) m kc) 3 m (fun j => iv (I j)) (some (vch o3 3 kc G4)) := IRow.ofV hc3 hc4 hS6.g
     have hmem : ∀ x : Int, (∃ j : Int, (0 ≤ j ∧ j < m) ∧ I j = x) ↔ (0 ≤ x ∧ x < i) ∧ pri i n v Z < v x := fun x => by
      rw [hS6.same]
      constructor
      ·rintro ⟨j, hj, rfl⟩
       exact ⟨hB.rng j hj.1 (by omega), (hB.win hj.1 (by omega)).2 (by omega)⟩
      ·rintro ⟨hx, hx2⟩
       obtain ⟨q, hq, rfl⟩ := hB.ex x hx.1 hx.2
       exact ⟨q, ⟨hq.1, by have := (hB.win hq.1 hq.2).1 hx2; omega⟩, rfl⟩
     refine rl_nil <| run_seq <| run_region <| rl_v rfl rfl rfl (ov_move rfl rfl) <| rl_v rfl rfl rfl (ov_move rfl rfl) <| rl_v rfl rfl rfl (ov_assign rfl rfl) <| rl_v rfl rfl rfl (ov_assign rfl rfl) <| rl_v rfl rfl rfl (ov_assign rfl rfl) <| rl_nil <| run_ret Tryz.func6 (res3 Tryz.results6 rfl rfl rfl) ?_
     exact ⟨Z, I, _, m, kc, _, rfl, hB, by omega, ⟨hI⟩, hmem, hIr, hO5.sub (.cons_cons _ (List.nil_sublist _))⟩
end Go.Proofs.YtbcjfjldmfljgaaGreat
