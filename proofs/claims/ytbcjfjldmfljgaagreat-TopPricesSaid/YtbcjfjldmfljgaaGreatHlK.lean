import Derived.Test.YtbcjfjldmfljgaaGreatHlJ
set_option maxRecDepth 100000
namespace Go.Proofs.YtbcjfjldmfljgaaGreat
open Go.RowKit Go.Proofs Go.MapKept Hal
theorem isWorthH_any (x : Int) (w : World) (hx : W9 x) : Calls Tryz.prog 13 #[iv x] w fun e w' => e = .returned (.bool true) ∧ Own w.heap.size w w' [] := by
 unfold W9 at hx
 refine calls_of_run (F := [(0, _)]) Tryz.func13 rfl Tryz.ntmps13 rfl rfl ?_
 have hO0 := Own.init w
 refine run_seq <| run_region <| rl_v rfl rfl rfl (ov_assign rfl rfl) <| rl_nil <| run_seq <| run_region <| rl_v rfl rfl rfl (ov_move rfl rfl) <| rl_v rfl rfl rfl (ov_geq rfl rfl rfl) <| rl_v rfl rfl rfl (ov_move rfl rfl) ?_
 first | refine rl_split_dec 5 rfl (fun g1 => ?_) (fun g1 => ?_) | refine rl_split 5 rfl (fun g1 => ?_) (fun g1 => ?_)
 ·refine rl_gv rfl rfl rfl rfl rfl (ov_move rfl rfl) <| rl_gv rfl rfl rfl rfl rfl (ov_leq rfl rfl rfl) <| rl_v rfl rfl rfl (ov_pick_t rfl rfl rfl) <| rl_v rfl rfl rfl (ov_assign rfl rfl) <| rl_nil <| run_ret Tryz.func13 (res1 Tryz.results13 rfl) ?_
  exact ⟨congrArg (fun b => Ending.returned (.bool b)) (decide_eq_true_iff.2 hx.2), hO0⟩
 ·exfalso; (exact g1 hx.1)
theorem notWorthH_any (x : Int) (w : World) (hx : W9 x) : Calls Tryz.prog 47 #[iv x] w fun e w' => e = .returned (.bool false) ∧ Own w.heap.size w w' [] := by
 refine calls_of_run (F := [(0, _)]) Tryz.func47 rfl Tryz.ntmps47 rfl rfl ?_
 have hO0 := Own.init w
 refine run_seq <| run_region <| rl_v rfl rfl rfl (ov_assign rfl rfl) <| rl_nil <| run_seq <| run_region <| rl_v rfl rfl rfl (ov_move rfl rfl) ?_
 refine rl_call callable_13 rfl rfl rfl rfl rfl rfl (isWorthH_any x _ hx) (fun e1 w2 hp3 => ?_)
 obtain ⟨rfl, hOa⟩ := hp3
 refine ⟨_, rfl, ?_⟩
 have hO4 := hO0.join hOa
 refine rl_v rfl rfl rfl (ov_not rfl rfl) <| rl_v rfl rfl rfl (ov_assign rfl rfl) <| rl_nil <| run_ret Tryz.func47 (res1 Tryz.results47 rfl) ?_
 exact ⟨rfl, hO4⟩
theorem indexH_any (ao : Option Addr) (n c : Nat) (q : Int → Int) (w : World) (hn : n ≤ 1000) (h : IAt w.heap.size w ao n (fun i => iv (q i))) (hq : ∀ i : Int, 0 ≤ i → i < n → W9 (q i)) :
  Calls Tryz.prog 31 #[.slice ao n c, .func (.func 47) #[] #[]] w fun e w' => e = .returned (iv (-1)) ∧ Own w.heap.size w w' [] := by
 obtain ⟨gb, go, hga, hrow⟩ := h.open
 refine calls_of_run (F := [(0, _), (1, _)]) Tryz.func31 rfl Tryz.ntmps31 rfl rfl ?_
 have hO0 := Own.init w
 refine run_seq <| run_region <| rl_v rfl rfl rfl (ov_assign rfl rfl) <| rl_nil <| run_seq <| run_seq <| run_region <| rl_v rfl rfl rfl (ov_move rfl rfl) <| rl_v rfl rfl rfl (ov_len rfl Tryz.underlying22 rfl) <| rl_v rfl rfl rfl (ov_move rfl rfl) <| rl_nil <| run_block <| Run.keep [0, 1, 7, 8] (F' := [(0, _), (1, _), (7, _), (8, _)]) rfl <| run_loop1 (fun (k : Nat) => [(8, .int .i64 (k : Int))]) [0, 1, 7] (fun (k : Nat) (w1 : World) => k ≤ n ∧ Own w.heap.size w w1 []) (fun (k : Nat) => n - k) (0) ?_ (And.intro (by exact slot_int rfl (by first | omega)) (And.intro rfl (And.intro rfl (And.intro rfl trivial)))) ?_
 ·exact ⟨Nat.zero_le _, hO0⟩
 intro k w1 hIw1 ih2
 obtain ⟨hk, hO⟩ := hIw1
 show Run _ _ _ _ [(8, _), (0, _), (1, _), (7, _)] _ _
 refine run_seq <| run_region <| rl_v rfl rfl rfl (ov_lss rfl rfl rfl) <| rl_nil <| run_seq ?_
 first | refine run_cond_dec rfl (fun h1 => ?_) (fun h1 => ?_) | refine run_cond rfl (fun h1 => ?_) (fun h1 => ?_)
 ·refine run_skip <| run_seq <| run_block <| run_seq <| run_region <| rl_v rfl rfl rfl (ov_move rfl rfl) <| rl_v rfl rfl rfl (ov_assign rfl rfl) <| rl_nil <| run_seq <| run_region <| rl_v rfl rfl rfl (ov_move rfl rfl) <| rl_v rfl rfl rfl (ov_move rfl rfl) <| rl_v rfl rfl rfl (ov_move rfl rfl) <| rl_v rfl rfl rfl (ov_index1 rfl Tryz.underlying22 (by kernel_rfl) rfl rfl ⟨by omega, by omega⟩ (by exact hga (by omega))) ?_
  refine rl_v rfl rfl rfl (ov_load rfl Tryz.underlying2 rfl rfl (by exact hrow _ hO.below k (by omega) h1)) ?_
  refine rl_call callable_47 rfl rfl rfl rfl rfl rfl (notWorthH_any (q k) _ (hq k (by omega) h1)) (fun e3 w4 hp5 => ?_)
  obtain ⟨rfl, hbl⟩ := hp5
  refine ⟨_, rfl, ?_⟩
  have hO6 := hO.join hbl
  refine rl_nil ?_
  first | refine run_cond_dec rfl (fun h2 => ?_) (fun h2 => ?_) | refine run_cond rfl (fun h2 => ?_) (fun h2 => ?_)
  ·exfalso; (exact Bool.noConfusion h2)
  ·refine run_skip <| run_inBlock <| run_region <| rl_v rfl rfl rfl (ov_add rfl rfl rfl (by omega)) ?_
   refine rl_v rfl rfl rfl (ov_move rfl rfl) <| rl_nil ?_
   refine Run.use (ih2 (k + 1) _ ?_ ?_) (And.intro (by exact slot_int rfl (by first | omega)) (And.intro rfl (And.intro rfl (And.intro rfl trivial))))
   ·first | omega | (dsimp only; omega)
   ·exact ⟨by omega, hO6⟩
 ·refine run_exit rfl <| run_seq <| run_region <| rl_v rfl rfl rfl (ov_assign rfl rfl) <| rl_nil <| run_ret Tryz.func31 (res1 Tryz.results31 rfl) ?_
  exact ⟨rfl, hO⟩
theorem containsH_any (ao : Option Addr) (n c : Nat) (q : Int → Int) (w : World) (hn : n ≤ 1000) (h : IAt w.heap.size w ao n (fun i => iv (q i))) (hq : ∀ i : Int, 0 ≤ i → i < n → W9 (q i)) :
  Calls Tryz.prog 11 #[.slice ao n c, .func (.func 47) #[] #[]] w fun e w' => e = .returned (.bool false) ∧ Own w.heap.size w w' [] := by
 refine calls_of_run (F := [(0, _), (1, _)]) Tryz.func11 rfl Tryz.ntmps11 rfl rfl ?_
 have hO0 := Own.init w
 refine run_seq <| run_region <| rl_v rfl rfl rfl (ov_assign rfl rfl) <| rl_nil <| run_seq <| run_region <| rl_v rfl rfl rfl (ov_move rfl rfl) <| rl_v rfl rfl rfl (ov_move rfl rfl) ?_
 refine rl_call callable_31 rfl rfl rfl rfl rfl rfl (indexH_any ao n c q _ hn h hq) (fun e1 w2 hp3 => ?_)
 obtain ⟨rfl, hbl⟩ := hp3
 refine ⟨_, rfl, ?_⟩
 have hO4 := hO0.join hbl
 refine rl_v rfl rfl rfl (ov_geq rfl rfl rfl) <| rl_v rfl rfl rfl (ov_assign rfl rfl) <| rl_nil <| run_ret Tryz.func11 (res1 Tryz.results11 rfl) ?_
 exact ⟨rfl, hO4⟩
theorem checkH_any (wa : Option Addr) (wc : Nat) (h : Hal) (w : World) (hH : HalO w.heap.size w wa h) :
  Calls Tryz.prog 22 #[.slice wa h.nb wc] w fun e w' => e = .returned (iv 0) ∧ Own w.heap.size w w' [] := by
 have hnb := hH.nb
 have hnl := hH.nl
 obtain ⟨A, C, RB, RO, gb, go, hga, hrow, hra, hel, hat⟩ := hH.t.open
 refine calls_of_run (F := [(0, _)]) Tryz.func22 rfl Tryz.ntmps22 rfl rfl ?_
 have hO0 := Own.init w
 refine run_seq <| run_region <| rl_v rfl rfl rfl (ov_assign rfl rfl) <| rl_nil <| run_seq <| run_seq <| run_region <| rl_v rfl rfl rfl (ov_move rfl rfl) <| rl_v rfl rfl rfl (ov_len rfl Tryz.underlying25 rfl) <| rl_v rfl rfl rfl (ov_eql rfl rfl rfl) <| rl_v rfl rfl rfl (ov_move rfl rfl) ?_
 first | refine rl_noD 10 rfl ((by omega)) ?_ | refine rl_no 10 rfl ((by omega)) ?_
 refine rl_gv rfl rfl rfl rfl rfl (ov_move rfl rfl) <| rl_gv rfl rfl rfl rfl rfl (ov_index1 rfl Tryz.underlying25 (by kernel_rfl) rfl rfl ⟨by omega, by omega⟩ (by exact hga (by omega))) ?_
 refine rl_gv rfl rfl rfl rfl rfl (ov_load rfl Tryz.underlying22 rfl rfl (by exact hrow _ hO0.below 0 (by omega) (by omega))) ?_
 refine rl_gv rfl rfl rfl rfl rfl (ov_len rfl Tryz.underlying22 rfl) <| rl_gv rfl rfl rfl rfl rfl (ov_eql rfl rfl rfl) <| rl_v rfl rfl rfl (ov_pick_f rfl rfl rfl) <| rl_nil ?_
 first | refine run_cond_dec rfl (fun c1 => ?_) (fun c1 => ?_) | refine run_cond rfl (fun c1 => ?_) (fun c1 => ?_)
 ·exfalso; (have c2 : ((h.nl : Int) = 0) := (by simpa using c1); omega)
 ·refine run_skip <| run_seq <| run_seq <| run_region <| rl_v rfl rfl rfl (ov_move rfl rfl) <| rl_v rfl rfl rfl (ov_len rfl Tryz.underlying25 rfl) <| rl_v rfl rfl rfl (ov_gtr rfl rfl rfl) <| rl_v rfl rfl rfl (ov_move rfl rfl) ?_
  first | refine rl_noD 20 rfl ((by omega)) ?_ | refine rl_no 20 rfl ((by omega)) ?_
  refine rl_gv rfl rfl rfl rfl rfl (ov_move rfl rfl) <| rl_gv rfl rfl rfl rfl rfl (ov_index1 rfl Tryz.underlying25 (by kernel_rfl) rfl rfl ⟨by omega, by omega⟩ (by exact hga (by omega))) ?_
  refine rl_gv rfl rfl rfl rfl rfl (ov_load rfl Tryz.underlying22 rfl rfl (by exact hrow _ hO0.below 0 (by omega) (by omega))) ?_
  refine rl_gv rfl rfl rfl rfl rfl (ov_len rfl Tryz.underlying22 rfl) <| rl_gv rfl rfl rfl rfl rfl (ov_gtr rfl rfl rfl) <| rl_v rfl rfl rfl (ov_pick_f rfl rfl rfl) <| rl_nil ?_
  first | refine run_cond_dec rfl (fun c2 => ?_) (fun c2 => ?_) | refine run_cond rfl (fun c2 => ?_) (fun c2 => ?_)
  ·exfalso; (have c3 : ((h.nl : Int) > 64) := (by simpa using c2); omega)
  ·refine run_skip <| run_seq <| run_seq <| run_region <| rl_v rfl rfl rfl (ov_move rfl rfl) <| rl_v rfl rfl rfl (ov_len rfl Tryz.underlying25 rfl) <| rl_v rfl rfl rfl (ov_move rfl rfl) <| rl_nil <| run_block <| Run.keep [0, 27, 28, 29] (F' := [(0, _), (27, _), (28, _), (29, _)]) rfl <| run_loop1 (fun (i : Nat) => [(29, .int .i64 (i : Int))]) [0, 27, 28] (fun (i : Nat) (w1 : World) => i ≤ h.nb ∧ Own w.heap.size w w1 []) (fun (i : Nat) => h.nb - i) (0) ?_ (And.intro (by exact slot_int rfl (by first | omega)) (And.intro rfl (And.intro rfl (And.intro rfl trivial)))) ?_
   ·exact ⟨Nat.zero_le _, hO0⟩
   intro i w1 hIw1 ih2
   obtain ⟨hi, hO1⟩ := hIw1
   show Run _ _ _ _ [(29, _), (0, _), (27, _), (28, _)] _ _
   refine run_seq <| run_region <| rl_v rfl rfl rfl (ov_lss rfl rfl rfl) <| rl_nil <| run_seq ?_
   first | refine run_cond_dec rfl (fun c3 => ?_) (fun c3 => ?_) | refine run_cond rfl (fun c3 => ?_) (fun c3 => ?_)
   ·refine run_skip <| run_seq <| run_block <| run_seq <| run_region <| rl_v rfl rfl rfl (ov_index1 rfl Tryz.underlying25 (by kernel_rfl) rfl rfl ⟨by omega, by omega⟩ (by exact hga (by omega))) ?_
    refine rl_v rfl rfl rfl (ov_load rfl Tryz.underlying22 rfl rfl (by exact hrow _ hO1.below i (by omega) c3)) ?_
    refine rl_v rfl rfl rfl (ov_assign rfl rfl) <| rl_nil <| run_seq <| run_region <| rl_v rfl rfl rfl (ov_move rfl rfl) <| rl_v rfl rfl rfl (ov_len rfl Tryz.underlying22 rfl) <| rl_v rfl rfl rfl (ov_move rfl rfl) <| rl_v rfl rfl rfl (ov_index1 rfl Tryz.underlying25 (by kernel_rfl) rfl rfl ⟨by omega, by omega⟩ (by exact hga (by omega))) ?_
    refine rl_v rfl rfl rfl (ov_load rfl Tryz.underlying22 rfl rfl (by exact hrow _ hO1.below 0 (by omega) (by omega))) ?_
    refine rl_v rfl rfl rfl (ov_len rfl Tryz.underlying22 rfl) <| rl_v rfl rfl rfl (ov_neq rfl rfl rfl) <| rl_nil ?_
    first | refine run_cond_dec rfl (fun c4 => ?_) (fun c4 => ?_) | refine run_cond rfl (fun c4 => ?_) (fun c4 => ?_)
    ·exfalso; (exact c4 rfl)
    ·refine run_skip <| run_inBlock <| run_region <| rl_v rfl rfl rfl (ov_add rfl rfl rfl (by omega)) ?_
     refine rl_v rfl rfl rfl (ov_move rfl rfl) <| rl_nil ?_
     refine Run.use (ih2 (i + 1) _ ?_ ?_) (And.intro (by exact slot_int rfl (by first | omega)) (And.intro rfl (And.intro rfl (And.intro rfl trivial))))
     ·first | omega | (dsimp only; omega)
     ·exact ⟨by omega, hO1⟩
   ·refine run_exit rfl <| run_seq <| run_seq <| run_region <| rl_v rfl rfl rfl (ov_move rfl rfl) <| rl_v rfl rfl rfl (ov_len rfl Tryz.underlying25 rfl) <| rl_v rfl rfl rfl (ov_move rfl rfl) <| rl_nil <| run_block <| Run.keep [41, 42, 43] (F' := [(41, _), (42, _), (43, _)]) rfl <| run_loop1 (fun (i : Nat) => [(43, .int .i64 (i : Int))]) [41, 42] (fun (i : Nat) (w3 : World) => i ≤ h.nb ∧ Own w.heap.size w w3 []) (fun (i : Nat) => h.nb - i) (0) ?_ (And.intro (by exact slot_int rfl (by first | omega)) (And.intro rfl (And.intro rfl trivial))) ?_
    ·exact ⟨Nat.zero_le _, hO1⟩
    intro i w3 hIw3 ih4
    obtain ⟨hi, hO1⟩ := hIw3
    show Run _ _ _ _ [(43, _), (41, _), (42, _)] _ _
    refine run_seq <| run_region <| rl_v rfl rfl rfl (ov_lss rfl rfl rfl) <| rl_nil <| run_seq ?_
    first | refine run_cond_dec rfl (fun c5 => ?_) (fun c5 => ?_) | refine run_cond rfl (fun c5 => ?_) (fun c5 => ?_)
    ·refine run_skip <| run_seq <| run_block <| run_seq <| run_region <| rl_v rfl rfl rfl (ov_index1 rfl Tryz.underlying25 (by kernel_rfl) rfl rfl ⟨by omega, by omega⟩ (by exact hga (by omega))) ?_
     refine rl_v rfl rfl rfl (ov_load rfl Tryz.underlying22 rfl rfl (by exact hrow _ hO1.below i (by omega) c5)) ?_
     refine rl_v rfl rfl rfl (ov_assign rfl rfl) <| rl_nil <| run_seq <| run_region <| rl_v rfl rfl rfl (ov_move rfl rfl) ?_
     refine rl_call callable_11 rfl rfl rfl rfl rfl rfl (containsH_any (A i) h.nl (C i) (h.V i) _ (by omega) (hO1.iatU (hat i (by omega) c5)) (fun j j0 j1 => hH.v i j (by omega) c5 j0 j1)) (fun e5 w6 hp7 => ?_)
     obtain ⟨rfl, hOa⟩ := hp7
     refine ⟨_, rfl, ?_⟩
     have hO8 := hO1.join hOa
     refine rl_nil ?_
     first | refine run_cond_dec rfl (fun c6 => ?_) (fun c6 => ?_) | refine run_cond rfl (fun c6 => ?_) (fun c6 => ?_)
     ·exfalso; (exact Bool.noConfusion c6)
     ·refine run_skip <| run_inBlock <| run_region <| rl_v rfl rfl rfl (ov_add rfl rfl rfl (by omega)) ?_
      refine rl_v rfl rfl rfl (ov_move rfl rfl) <| rl_nil ?_
      refine Run.use (ih4 (i + 1) _ ?_ ?_) (And.intro (by exact slot_int rfl (by first | omega)) (And.intro rfl (And.intro rfl trivial)))
      ·first | omega | (dsimp only; omega)
      ·exact ⟨by omega, hO8⟩
    ·refine run_exit rfl <| run_seq <| run_region <| rl_v rfl rfl rfl (ov_assign rfl rfl) <| rl_nil <| run_ret Tryz.func22 (res1 Tryz.results22 rfl) ?_
     exact ⟨rfl, hO1⟩
theorem Hal.Bal.congr {h : Hal} {p a b : Int → Int} (hB : h.Bal p b) (e : ∀ i : Int, 0 ≤ i → i < h.nb → b i = a i) : h.Bal p a :=
 ⟨fun i i0 i1 => by rw [← e i i0 i1]; exact hB.rng i i0 i1, fun i k i0 i1 k0 k1 => by rw [← e i i0 i1, ← e k k0 k1]; exact hB.inj i k i0 i1 k0 k1, fun i i0 i1 => by rw [← e i i0 i1]; exact hB.no_ i i0 i1, fun i i0 i1 => by rw [← e i i0 i1]; exact hB.yes i i0 i1, fun j j0 j1 hj => by
  obtain ⟨i, hi, q⟩ := hB.pos j j0 j1 hj
  exact ⟨i, hi, by rw [← e i hi.1 hi.2]; exact q⟩⟩
theorem Hal.Part.put {h : Hal} {p a : Int → Int} {i : Nat} {j : Int} (hP : h.Part p i a) (hj : (j = -1 ∧ h.gn p i = 0) ∨ ((0 ≤ j ∧ j < h.nl) ∧ h.wn p i j)) (hn : 0 ≤ j → ¬ Tkn i a j) : h.Part p ((i + 1 : Nat) : Int) (upd a i j) := by
 have hs : ∀ x : Int, x < ((i + 1 : Nat) : Int) → x ≠ i → x < i := fun x _ _ => by omega
 refine ⟨fun x x0 x1 => ?_, fun x y x0 x1 y0 y1 hx e => ?_, fun x x0 x1 e => ?_, fun x x0 x1 hx => ?_⟩
 ·by_cases c : x = i
  ·rw [c, upd_same]; exact hj.imp (·.1) (·.1)
  ·rw [upd_ne _ _ c]; exact hP.rng x x0 (hs x x1 c)
 ·by_cases c : x = i <;> by_cases d : y = i
  ·rw [c, d]
  ·rw [c, upd_same] at hx e
   rw [upd_ne _ _ d] at e
   exact absurd ⟨y, ⟨y0, hs y y1 d⟩, e.symm⟩ (hn hx)
  ·rw [upd_ne _ _ c] at hx e
   rw [d, upd_same] at e
   exact absurd ⟨x, ⟨x0, hs x x1 c⟩, e⟩ (hn (by omega))
  ·rw [upd_ne _ _ c] at hx e
   rw [upd_ne _ _ d] at e
   exact hP.inj x y x0 (hs x x1 c) y0 (hs y y1 d) hx e
 ·by_cases c : x = i
  ·rw [c, upd_same] at e
   rw [c]
   rcases hj with q | q
   ·exact q.2
   ·omega
  ·rw [upd_ne _ _ c] at e
   exact hP.no_ x x0 (hs x x1 c) e
 ·by_cases c : x = i
  ·rw [c, upd_same] at hx
   rw [c, upd_same]
   rcases hj with q | q
   ·omega
   ·exact q.2
  ·rw [upd_ne _ _ c] at hx ⊢
   exact hP.yes x x0 (hs x x1 c) hx
set_option maxHeartbeats 8000000 in
theorem hallH_any (wa : Option Addr) (wc : Nat) (h : Hal) (J : (Int → Int) → Prop) (hJ : KeepJ h J) (hJ0 : J fun _ => 0) (w : World) (hH : HalO w.heap.size w wa h) :
  Calls Tryz.prog 8 #[.slice wa h.nb wc] w fun e w' => ∃ (v : Value) (pb : Nat) (a p : Int → Int) (c : Option Blk), e = .returned (.tuple #[v, .slice (some ⟨pb, 0, none⟩) h.nl h.nl, iv 0]) ∧ IRow v 3 h.nb (fun i => iv (a i)) c ∧ Own w.heap.size w w' [c, some (vch pb 2 h.nl (fun j => iv (p j)))] ∧ (∀ j : Int, 0 ≤ j → j < h.nl → W9 (p j)) ∧ h.Bal p a ∧ NoC h p ∧ J p := by
 have hnb := hH.nb
 have hnl := hH.nl
 obtain ⟨A, C, RB, RO, gb, go, hga, hrow, hra, hel, hat⟩ := hH.t.open
 refine calls_of_run (F := [(0, _)]) Tryz.func8 rfl Tryz.ntmps8 rfl rfl ?_
 have hO0 := Own.init w
 refine run_seq <| run_region <| rl_v rfl rfl rfl (ov_assign rfl rfl) <| rl_v rfl rfl rfl (ov_assign rfl rfl) <| rl_v rfl rfl rfl (ov_assign rfl rfl) <| rl_nil <| run_scope <| run_seq <| run_seq <| run_region <| rl_v rfl rfl rfl (ov_move rfl rfl) ?_
 refine rl_call callable_22 rfl rfl rfl rfl rfl rfl (checkH_any wa wc h _ hH) (fun e1 w2 hp3 => ?_)
 obtain ⟨rfl, hOa⟩ := hp3
 refine ⟨_, rfl, ?_⟩
 have hO4 := hO0.join hOa
 refine rl_v rfl rfl rfl (ov_assign rfl rfl) <| rl_nil <| run_seq <| run_region <| rl_v rfl rfl rfl (ov_move rfl rfl) <| rl_v rfl rfl rfl (ov_neq rfl rfl rfl) <| rl_nil ?_
 first | refine run_cond_dec rfl (fun c1 => ?_) (fun c1 => ?_) | refine run_cond rfl (fun c1 => ?_) (fun c1 => ?_)
 ·exfalso; (exact c1 rfl)
 ·refine run_skip <| run_seq <| run_region <| rl_v rfl rfl rfl (ov_move rfl rfl) ?_
  refine rl_call callable_23 rfl rfl rfl rfl rfl rfl (leastH_any wa wc h J hJ hJ0 _ ⟨hnb, hnl, hH.v, (hH.t.below hO4.below).mono hO4.size⟩) (fun e5 w6 hp7 => ?_)
  obtain ⟨pb, p, rfl, hOb, hp, hc, hNc, hjp⟩ := hp7
  refine ⟨_, rfl, ?_⟩
  have hO8 := hO4.join hOb
  have hcan0 : h.Can p 0 (fun _ => 0) := by
   obtain ⟨of1, hN⟩ := hNc
   exact can0 hc (fun _ => 0) hN
  have hpart0 : h.Part p ((0 : Nat) : Int) (fun _ => 0) := ⟨fun i a b => by omega, fun i j a b => by omega, fun i a b => by omega, fun i a b => by omega⟩
  refine rl_v rfl rfl rfl (ov_assign rfl rfl) <| rl_nil <| run_seq <| run_label <| run_seq <| run_seq <| run_region <| rl_v rfl rfl rfl (ov_move rfl rfl) <| rl_v rfl rfl rfl (ov_len rfl Tryz.underlying25 rfl) <| rl_v rfl rfl rfl (ov_move rfl rfl) <| rl_nil <| run_block <| Run.keep [0, 2, 3, 19, 20] (F' := [(0, _), (2, _), (3, _), (19, _), (20, _)]) rfl <| run_loop2 (fun (i : Nat) (v : Value) => [(20, .int .i64 (i : Int)), (2, v)]) [0, 3, 19] (fun (i : Nat) (v : Value) (w9 : World) => i ≤ h.nb ∧ ∃ (a : Int → Int) (cv : Option Blk), IRow v 3 i (fun x => iv (a x)) cv ∧ h.Part p i a ∧ h.Can p i a ∧ Own w.heap.size w w9 [cv, some (vch pb 2 h.nl (fun j => iv (p j)))]) (fun (i : Nat) (v : Value) => h.nb - i) (0) (.slice none 0 0) ?_ (And.intro (by exact slot_int rfl (by first | omega)) (And.intro rfl (And.intro rfl (And.intro rfl (And.intro rfl trivial))))) ?_
  ·exact ⟨Nat.zero_le _, fun _ => 0, none, IRow.nil _ _, hpart0, hcan0, hO8.nil_cons⟩
  intro i v w9 hIw9 ih10
  obtain ⟨hi, a, cv, hv, hP, hK, hO1⟩ := hIw9
  show Run _ _ _ _ [(20, _), (2, _), (0, _), (3, _), (19, _)] _ _
  refine run_seq <| run_region <| rl_v rfl rfl rfl (ov_lss rfl rfl rfl) <| rl_nil <| run_seq ?_
  first | refine run_cond_dec rfl (fun c2 => ?_) (fun c2 => ?_) | refine run_cond rfl (fun c2 => ?_) (fun c2 => ?_)
  ·refine run_skip <| run_seq <| run_block <| run_seq <| run_region <| rl_v rfl rfl rfl (ov_move rfl rfl) <| rl_v rfl rfl rfl (ov_assign rfl rfl) <| rl_nil <| run_seq <| run_region <| rl_v rfl rfl rfl (ov_move rfl rfl) <| rl_v rfl rfl rfl (ov_move rfl rfl) <| rl_v rfl rfl rfl (ov_index1 rfl Tryz.underlying25 (by kernel_rfl) rfl rfl ⟨by omega, by omega⟩ (by exact hga (by omega))) ?_
   refine rl_v rfl rfl rfl (ov_load rfl Tryz.underlying22 rfl rfl (by exact hrow _ hO1.below i (by omega) c2)) ?_
   refine rl_v rfl rfl rfl (ov_move rfl rfl) ?_
   refine rl_call callable_24 rfl rfl rfl rfl rfl rfl (wantsH_any (A i) (some ⟨pb, 0, none⟩) h.nl (C i) h.nl (h.V i) p _ hnl.2 (fun j j0 j1 => hH.v i j (by omega) c2 j0 j1) hp (hO1.iatU (hat i (by omega) c2)) (hO1.readsH (.tail _ (.head _)))) (fun e11 w12 hp13 => ?_)
   obtain ⟨v7, c7, K7, cb7, rfl, hK7, hv7, _, hOc⟩ := hp13
   refine ⟨_, rfl, ?_⟩
   have hO14 := hO1.join hOc
   refine rl_v rfl rfl rfl (ov_assign rfl rfl) <| rl_nil <| run_seq <| run_seq <| run_region <| rl_v rfl rfl rfl (ov_move rfl rfl) <| rl_v rfl rfl rfl (ov_move rfl rfl) <| rl_v rfl rfl rfl (ov_index1 rfl Tryz.underlying25 (by kernel_rfl) rfl rfl ⟨by omega, by omega⟩ (by exact hga (by omega))) ?_
   refine rl_v rfl rfl rfl (ov_load rfl Tryz.underlying22 rfl rfl (by exact hrow _ hO14.below i (by omega) c2)) ?_
   refine rl_v rfl rfl rfl (ov_move rfl rfl) ?_
   refine rl_call callable_25 rfl rfl rfl rfl rfl rfl (gainH_any (A i) (some ⟨pb, 0, none⟩) h.nl (C i) h.nl (h.V i) p _ hnl.2 (fun j j0 j1 => hH.v i j (by omega) c2 j0 j1) hp (hO14.iatU (hat i (by omega) c2)) (hO14.readsH (.tail _ (.tail _ (.head _))))) (fun e15 w16 hp17 => ?_)
   obtain ⟨rfl, hOd⟩ := hp17
   refine ⟨_, rfl, ?_⟩
   have hO18 := hO14.join hOd
   have hpk : Pick (h.wn p i) h.nl c7 K7 := hK7
   have hc7 := hpk.le
   refine rl_v rfl rfl rfl (ov_eql rfl rfl rfl) <| rl_nil <| Run.keep [0, 2, 3, 7, 19, 20, 35] (F' := [(0, _), (2, _), (3, _), (7, _), (19, _), (20, _), (35, _)]) rfl <| run_join2 (fun (v8 : Value) (n8 : Nat) => [(7, v8)]) [0, 2, 3, 19, 20] (fun (v8 : Value) (n8 : Nat) (w19 : World) => ∃ (Op : Int → Int) (c8 : Option Blk), n8 ≤ 100 ∧ IRow v8 3 n8 (fun x => iv (Op x)) c8 ∧ (∀ j : Int, (∃ q : Int, (0 ≤ q ∧ q < n8) ∧ Op q = j) ↔ (j = -1 ∧ h.gn p i = 0) ∨ ((0 ≤ j ∧ j < h.nl) ∧ h.wn p i j)) ∧ Own w.heap.size w w19 [c8, cv, some (vch pb 2 h.nl (fun j => iv (p j)))]) (fun hk20 => ?_) ?_
   ·first | refine run_cond_dec rfl (fun c7z => ?_) (fun c7z => ?_) | refine run_cond rfl (fun c7z => ?_) (fun c7z => ?_)
    ·have hg0 : h.gn p i = 0 := c7z
     refine run_region <| rl_ow rfl (ow_one rfl rfl rfl Tryz.underlying30 info_3 rfl hO18 rfl rfl) ?_
     rintro _ w21 ⟨b36, rfl, hO22, hs23⟩
     have hr36 : IRow (.slice (some ⟨b36, 0, none⟩) 1 1) 3 1 (fun _ => iv (-1)) (some (vch b36 3 1 (fun _ => iv (-1)))) := IRow.ofV (Nat.le_refl _) (by unfold maxLen; omega) (fun _ _ _ => rfl)
     obtain ⟨a7, k7, rfl⟩ := Row.val hv7
     refine rl_v rfl rfl rfl (ov_move rfl rfl) <| rl_ow rfl (ow_appS rfl rfl rfl Tryz.underlying30 info_3 rfl hO22 0 hr36 rfl rfl rfl ((hv7.reads hO22 1 rfl)) (fun _ => rfl) ⟨by omega, by omega⟩) ?_
     rintro _ w24 ⟨v38, c38, rfl, hO25, hv38, hs26⟩
     have hv38' : IRow v38 3 (1 + c7) (fun x => iv (if x < 1 then -1 else K7 (x - 1))) c38 := hv38.congr fun x _ _ => by
      unfold joinF
      by_cases z : x < 1
      ·rw [if_pos (show x < ((1 : Nat) : Int) from z), if_pos z]
      ·rw [if_neg (show ¬ x < ((1 : Nat) : Int) from z), if_neg z]; rfl
     have hOp1 : ∀ j : Int, (∃ q : Int, (0 ≤ q ∧ q < ((1 + c7 : Nat) : Int)) ∧ (if q < 1 then -1 else K7 (q - 1)) = j) ↔ (j = -1 ∧ h.gn p i = 0) ∨ ((0 ≤ j ∧ j < h.nl) ∧ h.wn p i j) := fun j => by
      rw [← hpk.mem j]
      constructor
      ·rintro ⟨q, hq, e⟩
       by_cases z : q < 1
       ·rw [if_pos z] at e; exact .inl ⟨e.symm, hg0⟩
       ·rw [if_neg z] at e; exact .inr ⟨q - 1, by omega, e⟩
      ·rintro (⟨e, _⟩ | ⟨q, hq, e⟩)
       ·exact ⟨0, by omega, by rw [if_pos (by omega)]; exact e.symm⟩
       ·exact ⟨q + 1, by omega, by rw [if_neg (by omega)]; exact (congrArg K7 (by omega)).trans e⟩
     refine rl_v rfl rfl rfl (ov_assign rfl rfl) <| rl_nil ?_
     refine Run.use (hk20 (v38) (1 + c7) _ ?_) (And.intro rfl (And.intro rfl (And.intro rfl (And.intro rfl (And.intro rfl (And.intro rfl trivial))))))
     exact ⟨_, c38, by omega, hv38', hOp1, hO25.sub (.cons_cons _ (.cons _ (List.Sublist.refl _)))⟩
    ·have hg0 : ¬ h.gn p i = 0 := c7z
     refine run_skip ?_
     refine Run.use (hk20 (v7) (c7) _ ?_) (And.intro rfl (And.intro rfl (And.intro rfl (And.intro rfl (And.intro rfl (And.intro rfl trivial))))))
     exact ⟨K7, cb7, by omega, hv7, fun j => by rw [hpk.mem j]; exact ⟨.inr, fun q => q.resolve_left fun q => hg0 q.2⟩, hO18⟩
   ·intro v8 n8 w19 hJw19
    obtain ⟨Op, c8, hn8, hv8, hOp, hO2⟩ := hJw19
    show Run _ _ _ _ [(7, _), (0, _), (2, _), (3, _), (19, _), (20, _)] _ _
    obtain ⟨a8, k8, rfl⟩ := Row.val hv8
    obtain ⟨av, kv, rfl⟩ := Row.val hv
    obtain ⟨b8, ha8⟩ := IRow.addr hv8
    have hfin : ¬ ∀ q : Int, 0 ≤ q → q < n8 → ¬ ∃ b, h.Bal p b ∧ (∀ x : Int, 0 ≤ x → x < i → b x = a x) ∧ b i = Op q := fun hall => by
     obtain ⟨b, hB, he⟩ := hK
     have hbi : (b i = -1 ∧ h.gn p i = 0) ∨ ((0 ≤ b i ∧ b i < h.nl) ∧ h.wn p i (b i)) := by
      rcases hB.rng i (by omega) c2 with e | e
      ·exact .inl ⟨e, hB.no_ i (by omega) c2 e⟩
      ·exact .inr ⟨e, hB.yes i (by omega) c2 e.1⟩
     obtain ⟨q, hq, e⟩ := (hOp (b i)).2 hbi
     exact hall q hq.1 hq.2 ⟨b, hB, he, e.symm⟩
    refine run_seq <| run_region <| rl_v rfl rfl rfl (ov_move rfl rfl) <| rl_v rfl rfl rfl (ov_len rfl Tryz.underlying30 rfl) <| rl_v rfl rfl rfl (ov_move rfl rfl) <| rl_nil <| run_block <| Run.keep [0, 2, 3, 19, 20, 39, 40, 41] (F' := [(0, _), (2, _), (3, _), (19, _), (20, _), (39, _), (40, _), (41, _)]) rfl <| run_loop1 (fun (k : Nat) => [(41, .int .i64 (k : Int)), (2, .slice av i kv)]) [0, 3, 19, 20, 39, 40] (fun (k : Nat) (w27 : World) => k ≤ n8 ∧ (∀ q : Int, 0 ≤ q → q < k → ¬ ∃ b, h.Bal p b ∧ (∀ x : Int, 0 ≤ x → x < i → b x = a x) ∧ b i = Op q) ∧ Own w.heap.size w w27 [c8, cv, some (vch pb 2 h.nl (fun j => iv (p j)))]) (fun (k : Nat) => n8 - k) (0) ?_ (And.intro (by exact slot_int rfl (by first | omega)) (And.intro rfl (And.intro rfl (And.intro rfl (And.intro rfl (And.intro rfl (And.intro rfl (And.intro rfl trivial)))))))) ?_
    ·exact ⟨Nat.zero_le _, fun q a b => by omega, hO2⟩
    intro k w27 hIw27 ih28
    obtain ⟨hk, hnot, hO3⟩ := hIw27
    show Run _ _ _ _ [(41, _), (2, _), (0, _), (3, _), (19, _), (20, _), (39, _), (40, _)] _ _
    refine run_seq <| run_region <| rl_v rfl rfl rfl (ov_lss rfl rfl rfl) <| rl_nil <| run_seq ?_
    first | refine run_cond_dec rfl (fun c9 => ?_) (fun c9 => ?_) | refine run_cond rfl (fun c9 => ?_) (fun c9 => ?_)
    ·have hopt := (hOp (Op k)).1 ⟨k, ⟨by omega, c9⟩, rfl⟩
     refine run_skip <| run_seq <| run_block <| run_seq <| run_region <| rl_v rfl rfl rfl (ov_index1 rfl Tryz.underlying30 (by kernel_rfl) rfl rfl ⟨by omega, by omega⟩ (by exact ha8 (by omega))) ?_
     refine rl_v rfl rfl rfl (ov_load rfl Tryz.underlying3 rfl rfl (by exact hv8.cellU hO3 0 rfl (ha8 (by omega)) (i := k) (by omega) c9)) ?_
     refine rl_v rfl rfl rfl (ov_assign rfl rfl) <| rl_nil <| run_seq <| run_seq <| run_region <| rl_v rfl rfl rfl (ov_move rfl rfl) <| rl_v rfl rfl rfl (ov_geq rfl rfl rfl) <| rl_v rfl rfl rfl (ov_move rfl rfl) ?_
     first | refine rl_split_dec 47 rfl (fun g1 => ?_) (fun g1 => ?_) | refine rl_split 47 rfl (fun g1 => ?_) (fun g1 => ?_)
     ·refine rl_gv rfl rfl rfl rfl rfl (ov_move rfl rfl) <| rl_gv rfl rfl rfl rfl rfl (ov_move rfl rfl) ?_
      refine rl_gcall callable_26 rfl rfl rfl rfl rfl rfl rfl rfl (contains5_any av i kv a (Op k) _ (by omega) (hv.reads hO3 1 rfl)) (fun e30 w31 hp32 => ?_)
      obtain ⟨rfl, hbl⟩ := hp32
      refine ⟨_, rfl, ?_⟩
      have hO33 := hO3.past hbl
      refine rl_v rfl rfl rfl (ov_pick_t rfl rfl rfl) <| rl_nil ?_
      first | refine run_cond_dec rfl (fun g2 => ?_) (fun g2 => ?_) | refine run_cond rfl (fun g2 => ?_) (fun g2 => ?_)
      ·have htk : Tkn i a (Op k) := inR_rk.1 (by simpa using g2)
       have hno2 : ¬ ∃ b, h.Bal p b ∧ (∀ x : Int, 0 ≤ x → x < i → b x = a x) ∧ b i = Op k := fun ⟨b, hB, hx, hi2⟩ => by
        obtain ⟨x, hx1, hx2⟩ := htk
        have e1 := hx x hx1.1 hx1.2
        have := hB.inj x i hx1.1 (by omega) (by omega) c2 (by omega) (by omega)
        omega
       have hnot2 : ∀ q : Int, 0 ≤ q → q < ((k + 1 : Nat) : Int) → ¬ ∃ b, h.Bal p b ∧ (∀ x : Int, 0 ≤ x → x < i → b x = a x) ∧ b i = Op q := fun q q0 q1 => by
        by_cases e : q = k
        ·rw [e]; exact hno2
        ·exact hnot q q0 (by omega)
       refine run_exit rfl <| run_region <| rl_v rfl rfl rfl (ov_add rfl rfl rfl (by omega)) ?_
       refine rl_v rfl rfl rfl (ov_move rfl rfl) <| rl_nil ?_
       refine Run.use (ih28 (k + 1) _ ?_ ?_) (And.intro (by exact slot_int rfl (by first | omega)) (And.intro rfl (And.intro rfl (And.intro rfl (And.intro rfl (And.intro rfl (And.intro rfl (And.intro rfl trivial))))))))
       ·first | omega | (dsimp only; omega)
       ·exact ⟨by omega, hnot2, hO33⟩
      ·refine run_skip <| run_seq <| run_region <| rl_v rfl rfl rfl (ov_move rfl rfl) ?_
       refine rl_call callable_16 rfl rfl rfl rfl rfl rfl (clone5_any av i kv a _ (by omega) (hv.reads hO33 1 rfl)) (fun e34 w35 hp36 => ?_)
       obtain ⟨v53, c53, rfl, hv53, hOe⟩ := hp36
       refine ⟨_, rfl, ?_⟩
       have hO37 := hO33.join hOe
       obtain ⟨a53, k53, rfl⟩ := Row.val hv53
       refine rl_v rfl rfl rfl (ov_move rfl rfl) <| rl_ow rfl (ow_one rfl rfl rfl Tryz.underlying30 info_3 rfl hO37 rfl rfl) ?_
       rintro _ w38 ⟨b55, rfl, hO39, hs40⟩
       refine rl_ow rfl (ow_app1 rfl rfl rfl Tryz.underlying30 info_3 rfl hO39 0 hv53 rfl rfl rfl rfl ⟨by omega, by omega⟩) ?_
       rintro _ w41 ⟨v56, c56, rfl, hO42, hv56, hs43⟩
       have hv57 : IRow v56 3 (i + 1) (fun x => iv (upd a i (Op k) x)) c56 := hv56.congr fun x _ _ => by unfold upd; split <;> rfl
       obtain ⟨a56, k56, rfl⟩ := Row.val hv57
       have hP2 : h.Part p ((i + 1 : Nat) : Int) (upd a i (Op k)) := hP.put hopt (fun _ q => by have := inR_rk.2 q; simp [this] at g2)
       have hI2 : IAt w41.heap.size w41 a56 (i + 1) (fun x => iv (upd a i (Op k) x)) := hv57.reads hO42 0 rfl
       have hprR : IAt w41.heap.size w41 (some ⟨pb, 0, none⟩) h.nl (fun j => iv (p j)) := hO42.readsH (.tail _ (.tail _ (.tail _ (.head _))))
       refine rl_v rfl rfl rfl (ov_assign rfl rfl) <| rl_nil <| run_seq <| run_region <| rl_v rfl rfl rfl (ov_move rfl rfl) <| rl_v rfl rfl rfl (ov_move rfl rfl) <| rl_v rfl rfl rfl (ov_move rfl rfl) ?_
       refine rl_call callable_27 rfl rfl rfl rfl rfl rfl (balH_any wa (some ⟨pb, 0, none⟩) wc h.nl h p a56 (i + 1) k56 (upd a i (Op k)) _ (HalO.m hO42 hH hp hprR) (by omega) hP2 hI2) (fun e44 w45 hp46 => ?_)
       obtain ⟨bb, rfl, hbb, hOf⟩ := hp46
       refine ⟨_, rfl, ?_⟩
       have hO47 := hO42.join hOf
       refine rl_nil ?_
       first | refine run_cond_dec rfl (fun c10 => ?_) (fun c10 => ?_) | refine run_cond rfl (fun c10 => ?_) (fun c10 => ?_)
       ·refine run_seq <| run_region <| rl_v rfl rfl rfl (ov_move rfl rfl) <| rl_v rfl rfl rfl (ov_assign rfl rfl) <| rl_nil <| run_exit rfl <| run_region <| rl_v rfl rfl rfl (ov_add rfl rfl rfl (by omega)) ?_
        refine rl_v rfl rfl rfl (ov_move rfl rfl) <| rl_nil ?_
        refine Run.use (ih10 (i + 1) (.slice a56 (i + 1) k56) _ ?_ ?_) (And.intro (by exact slot_int rfl (by first | omega)) (And.intro rfl (And.intro rfl (And.intro rfl (And.intro rfl trivial)))))
        ·first | omega | (dsimp only; omega)
        ·exact ⟨by omega, _, c56, hv57, hP2, hbb.1 c10, hO47.sub (.cons_cons _ (.cons _ (.cons _ (.cons_cons _ (List.nil_sublist _)))))⟩
       ·have hno2 : ¬ ∃ b, h.Bal p b ∧ (∀ x : Int, 0 ≤ x → x < i → b x = a x) ∧ b i = Op k := fun ⟨b, hB, hx, hi2⟩ => by
         have hc3 : h.Can p ((i + 1 : Nat) : Int) (upd a i (Op k)) := ⟨b, hB, fun x x0 x1 => by
          by_cases e : x = i
          ·rw [e, upd_same]; exact hi2
          ·rw [upd_ne _ _ e]; exact hx x x0 (by omega)⟩
         exact Bool.noConfusion (c10.symm.trans (hbb.2 hc3))
        have hnot2 : ∀ q : Int, 0 ≤ q → q < ((k + 1 : Nat) : Int) → ¬ ∃ b, h.Bal p b ∧ (∀ x : Int, 0 ≤ x → x < i → b x = a x) ∧ b i = Op q := fun q q0 q1 => by
         by_cases e : q = k
         ·rw [e]; exact hno2
         ·exact hnot q q0 (by omega)
        refine run_skip <| run_inBlock <| run_region <| rl_v rfl rfl rfl (ov_add rfl rfl rfl (by omega)) ?_
        refine rl_v rfl rfl rfl (ov_move rfl rfl) <| rl_nil ?_
        refine Run.use (ih28 (k + 1) _ ?_ ?_) (And.intro (by exact slot_int rfl (by first | omega)) (And.intro rfl (And.intro rfl (And.intro rfl (And.intro rfl (And.intro rfl (And.intro rfl (And.intro rfl trivial))))))))
        ·first | omega | (dsimp only; omega)
        ·exact ⟨by omega, hnot2, hO47.tail⟩
     ·refine rl_gskip rfl rfl rfl rfl rfl rfl <| rl_gskip rfl rfl rfl rfl rfl rfl <| rl_gskip rfl rfl rfl rfl rfl rfl <| rl_v rfl rfl rfl (ov_pick_f rfl rfl rfl) <| rl_nil <| run_cond_f rfl <| run_skip <| run_seq <| run_region <| rl_v rfl rfl rfl (ov_move rfl rfl) ?_
      refine rl_call callable_16 rfl rfl rfl rfl rfl rfl (clone5_any av i kv a _ (by omega) (hv.reads hO3 1 rfl)) (fun e48 w49 hp50 => ?_)
      obtain ⟨v53, c53, rfl, hv53, hOe⟩ := hp50
      refine ⟨_, rfl, ?_⟩
      have hO51 := hO3.join hOe
      obtain ⟨a53, k53, rfl⟩ := Row.val hv53
      refine rl_v rfl rfl rfl (ov_move rfl rfl) <| rl_ow rfl (ow_one rfl rfl rfl Tryz.underlying30 info_3 rfl hO51 rfl rfl) ?_
      rintro _ w52 ⟨b55, rfl, hO53, hs54⟩
      refine rl_ow rfl (ow_app1 rfl rfl rfl Tryz.underlying30 info_3 rfl hO53 0 hv53 rfl rfl rfl rfl ⟨by omega, by omega⟩) ?_
      rintro _ w55 ⟨v56, c56, rfl, hO56, hv56, hs57⟩
      have hv57 : IRow v56 3 (i + 1) (fun x => iv (upd a i (Op k) x)) c56 := hv56.congr fun x _ _ => by unfold upd; split <;> rfl
      obtain ⟨a56, k56, rfl⟩ := Row.val hv57
      have hP2 : h.Part p ((i + 1 : Nat) : Int) (upd a i (Op k)) := hP.put hopt (fun q => absurd q (by omega))
      have hI2 : IAt w55.heap.size w55 a56 (i + 1) (fun x => iv (upd a i (Op k) x)) := hv57.reads hO56 0 rfl
      have hprR : IAt w55.heap.size w55 (some ⟨pb, 0, none⟩) h.nl (fun j => iv (p j)) := hO56.readsH (.tail _ (.tail _ (.tail _ (.head _))))
      refine rl_v rfl rfl rfl (ov_assign rfl rfl) <| rl_nil <| run_seq <| run_region <| rl_v rfl rfl rfl (ov_move rfl rfl) <| rl_v rfl rfl rfl (ov_move rfl rfl) <| rl_v rfl rfl rfl (ov_move rfl rfl) ?_
      refine rl_call callable_27 rfl rfl rfl rfl rfl rfl (balH_any wa (some ⟨pb, 0, none⟩) wc h.nl h p a56 (i + 1) k56 (upd a i (Op k)) _ (HalO.m hO56 hH hp hprR) (by omega) hP2 hI2) (fun e58 w59 hp60 => ?_)
      obtain ⟨bb, rfl, hbb, hOf⟩ := hp60
      refine ⟨_, rfl, ?_⟩
      have hO61 := hO56.join hOf
      refine rl_nil ?_
      first | refine run_cond_dec rfl (fun c10 => ?_) (fun c10 => ?_) | refine run_cond rfl (fun c10 => ?_) (fun c10 => ?_)
      ·refine run_seq <| run_region <| rl_v rfl rfl rfl (ov_move rfl rfl) <| rl_v rfl rfl rfl (ov_assign rfl rfl) <| rl_nil <| run_exit rfl <| run_region <| rl_v rfl rfl rfl (ov_add rfl rfl rfl (by omega)) ?_
       refine rl_v rfl rfl rfl (ov_move rfl rfl) <| rl_nil ?_
       refine Run.use (ih10 (i + 1) (.slice a56 (i + 1) k56) _ ?_ ?_) (And.intro (by exact slot_int rfl (by first | omega)) (And.intro rfl (And.intro rfl (And.intro rfl (And.intro rfl trivial)))))
       ·first | omega | (dsimp only; omega)
       ·exact ⟨by omega, _, c56, hv57, hP2, hbb.1 c10, hO61.sub (.cons_cons _ (.cons _ (.cons _ (.cons_cons _ (List.nil_sublist _)))))⟩
      ·have hno2 : ¬ ∃ b, h.Bal p b ∧ (∀ x : Int, 0 ≤ x → x < i → b x = a x) ∧ b i = Op k := fun ⟨b, hB, hx, hi2⟩ => by
        have hc3 : h.Can p ((i + 1 : Nat) : Int) (upd a i (Op k)) := ⟨b, hB, fun x x0 x1 => by
         by_cases e : x = i
         ·rw [e, upd_same]; exact hi2
         ·rw [upd_ne _ _ e]; exact hx x x0 (by omega)⟩
        exact Bool.noConfusion (c10.symm.trans (hbb.2 hc3))
       have hnot2 : ∀ q : Int, 0 ≤ q → q < ((k + 1 : Nat) : Int) → ¬ ∃ b, h.Bal p b ∧ (∀ x : Int, 0 ≤ x → x < i → b x = a x) ∧ b i = Op q := fun q q0 q1 => by
        by_cases e : q = k
        ·rw [e]; exact hno2
        ·exact hnot q q0 (by omega)
       refine run_skip <| run_inBlock <| run_region <| rl_v rfl rfl rfl (ov_add rfl rfl rfl (by omega)) ?_
       refine rl_v rfl rfl rfl (ov_move rfl rfl) <| rl_nil ?_
       refine Run.use (ih28 (k + 1) _ ?_ ?_) (And.intro (by exact slot_int rfl (by first | omega)) (And.intro rfl (And.intro rfl (And.intro rfl (And.intro rfl (And.intro rfl (And.intro rfl (And.intro rfl trivial))))))))
       ·first | omega | (dsimp only; omega)
       ·exact ⟨by omega, hnot2, hO61.tail⟩
    ·have hkn : k = n8 := by omega
     rw [hkn] at hnot
     exfalso; (exact hfin hnot)
  ·have hin : i = h.nb := by omega
   subst hin
   obtain ⟨av, kv, rfl⟩ := Row.val hv
   obtain ⟨b, hB, he⟩ := hK
   refine run_exit rfl <| run_seq <| run_region <| rl_v rfl rfl rfl (ov_move rfl rfl) <| rl_v rfl rfl rfl (ov_move rfl rfl) <| rl_v rfl rfl rfl (ov_assign rfl rfl) <| rl_v rfl rfl rfl (ov_assign rfl rfl) <| rl_v rfl rfl rfl (ov_assign rfl rfl) <| rl_nil <| run_ret Tryz.func8 (res3 Tryz.results8 rfl rfl rfl) ?_
   exact ⟨.slice av h.nb kv, pb, a, p, cv, rfl, hv, hO1, hp, hB.congr he, hNc, hjp⟩
end Go.Proofs.YtbcjfjldmfljgaaGreat
