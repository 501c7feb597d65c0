import Derived.Test.YtijffdhailddoaaPdC
set_option maxRecDepth 100000
namespace Go.Proofs.Ytijffdhailddoaa
open Go.RowKit Go.Proofs
def outG (n : Nat) (RB : Int → Nat) (i : Int) (r : Int) : Value := if r < i then .slice (some ⟨RB r, 0, none⟩) n n else .slice none 0 0
theorem outG_upd (n : Nat) (RB : Int → Nat) (i : Int) (b : Nat) (r : Int) : upd (outG n RB i) i (.slice (some ⟨b, 0, none⟩) n n) r = outG n (upd RB i b) (i + 1) r := by
 unfold outG upd
 by_cases h : r = i
 ·rw [if_pos h, if_pos (by omega), if_pos h]
 ·rw [if_neg h, if_neg h]
  show (if r < i then _ else _) = _
  by_cases h2 : r < i
  ·rw [if_pos h2, if_pos (by omega)]
  ·rw [if_neg h2, if_neg (by omega)]
def rowG (D : Int → Int → Int) (i j : Int) (c : Int) : Value := iv (if c < j then D i c else 0)
theorem rowG_zero (D : Int → Int → Int) (i c : Int) (h : 0 ≤ c) : iv 0 = rowG D i 0 c := by unfold rowG; rw [if_neg (by omega)]
theorem rowG_same (D : Int → Int → Int) (i j c : Int) (h : i = j → D i j = 0) (e : i = j) : rowG D i j c = rowG D i (j + 1) c := by
 unfold rowG
 by_cases h1 : c < j
 ·rw [if_pos h1, if_pos (by omega)]
 ·rw [if_neg h1]
  by_cases h2 : c = j
  ·rw [if_pos (by omega), h2, h e]
  ·rw [if_neg (by omega)]
theorem rowG_upd (D : Int → Int → Int) (i j c : Int) : upd (rowG D i j) j (iv (D i j)) c = rowG D i (j + 1) c := by
 unfold upd
 by_cases h : c = j
 ·rw [if_pos h]
  unfold rowG
  rw [if_pos (by omega), h]
 ·rw [if_neg h]
  unfold rowG
  by_cases h1 : c < j
  ·rw [if_pos h1, if_pos (by omega)]
  ·rw [if_neg h1, if_neg (by omega)]
theorem rowG_end (N : Nat) (L : Int → Nat) (D0 : Int → Int → Int) (n : Nat) (i j c : Int) (h : ¬(j < n ∧ i < N ∧ j < L i)) (hc : c < n) : rowG (DD N L D0) i j c = iv (DD N L D0 i c) := by
 unfold rowG
 by_cases h1 : c < j
 ·rw [if_pos h1]
 ·rw [if_neg h1]
  unfold DD
  rw [if_neg (by omega)]
set_option maxHeartbeats 4000000 in
theorem topPaid_any (ao mo oo : Option Addr) (N Nc M Mc Q Qc : Nat) (L : Int → Nat) (D0 : Int → Int → Int) (G U : Int → Int) (w : World)
  (h : ITab w.heap.size w ao N L (fun r c => iv (D0 r c))) (hm : IAt w.heap.size w mo M (fun i => iv (G i))) (hq : IAt w.heap.size w oo Q (fun i => iv (U i))) :
  Calls Try.prog 3 #[.slice ao N Nc, .slice mo M Mc, .slice oo Q Qc] w fun e w' => e = .returned (.bool true) ∧ Below w.heap.size w w' := by
 obtain ⟨A, C, RB0, RO0, gb, go, hga, hrow, hra, hel, _⟩ := h.open
 obtain ⟨mb, mo', hma, hmr⟩ := hm.open
 obtain ⟨qb, qo', hqa, hqr⟩ := hq.open
 refine calls_of_run (F := [(0, _), (1, _), (2, _)]) Try.func3 rfl Try.ntmps3 rfl rfl ?_
 have hO0 := Own.init w
 refine run_seq <| run_region <| rl_v rfl rfl rfl (ov_assign rfl rfl) <| rl_nil <| run_seq <| run_region <| rl_v rfl rfl rfl (ov_move rfl rfl) <| rl_v rfl rfl rfl (ov_len rfl Try.underlying22 rfl) <| rl_v rfl rfl rfl (ov_min rfl rfl rfl) <| rl_v rfl rfl rfl (ov_max rfl rfl rfl) <| rl_v rfl rfl rfl (ov_assign rfl rfl) <| rl_nil <| run_seq ?_
 generalize hnI : max (2 : Int) (min (N : Int) 6) = nI
 obtain ⟨n, rfl⟩ : ∃ n : Nat, nI = n := ⟨nI.toNat, by omega⟩
 have hn : 2 ≤ n ∧ n ≤ 6 := by omega
 refine run_region <| rl_v rfl rfl rfl (ov_move rfl rfl) <| rl_ow rfl (ow_make (n) rfl rfl rfl Try.underlying22 info_23 rfl hO0 rfl rfl (by rfl) (by rfl) ⟨by omega, by omega⟩) ?_
 rintro _ w1 ⟨b35, rfl, hO2, hs3⟩
 refine rl_v rfl rfl rfl (ov_assign rfl rfl) <| rl_nil <| run_seq <| run_region <| rl_v rfl rfl rfl (ov_move rfl rfl) <| rl_v rfl rfl rfl (ov_move rfl rfl) <| rl_ow rfl (ow_make (n) rfl rfl rfl Try.underlying23 info_2 rfl hO2 rfl rfl (by rfl) (by rfl) ⟨by omega, by omega⟩) ?_
 rintro _ w4 ⟨b38, rfl, hO5, hs6⟩
 refine rl_v rfl rfl rfl (ov_buildL rfl lay_26 rfl (us := [_, _, _, _]) rfl) <| rl_ow rfl (ow_alloc _ rfl rfl rfl zero_26 rfl hO5) ?_
 rintro _ w7 ⟨b9, rfl, hO8, hs9⟩
 refine rl_ow rfl (ow_storeW rfl rfl (by kernel_rfl) hO8 0 rfl rfl (by rfl) rfl (by rfl)) ?_
 rintro _ w10 ⟨rfl, hO11, hs12⟩
 refine rl_nil <| run_seq <| run_seq <| run_region <| rl_v rfl rfl rfl (ov_assign rfl rfl) <| rl_nil <| run_block <| Run.keep [0, 1, 2, 7, 8, 9, 10] (F' := [(0, _), (1, _), (2, _), (7, _), (8, _), (9, _), (10, _)]) rfl <| run_loop3 (fun (i : Int) (RB : Int → Nat) (Rs : List (Option Blk)) => [(10, .int .i64 i)]) [0, 1, 2, 7, 8, 9] (fun (i : Int) (RB : Int → Nat) (Rs : List (Option Blk)) (w13 : World) => (0 ≤ i ∧ i ≤ n) ∧ (∀ r : Int, 0 ≤ r → r < i → some (vch (RB r) 2 n (fun c => iv (DD N L D0 r c))) ∈ Rs) ∧ Own w.heap.size w w13 (some (lch b9 26 [iv n, iv 3, .slice none 0 0, .slice (some ⟨b38, 0, none⟩) n n]) :: some (vch b38 2 n (fun _ => iv 0)) :: some (vch b35 23 n (outG n RB i)) :: Rs)) (fun (i : Int) (RB : Int → Nat) (Rs : List (Option Blk)) => ((n : Int) - i).toNat) (0) (fun _ => 0) ([]) ?_ (And.intro (by exact slot_int rfl (by first | omega)) (And.intro rfl (And.intro rfl (And.intro rfl (And.intro rfl (And.intro rfl (And.intro rfl trivial))))))) ?_
 ·exact ⟨by omega, fun r h0 h1 => by omega, by simpa using ((hO11.congrI 2 rfl (G' := outG n (fun _ => 0) 0) fun r h0 _ => by unfold outG; rw [if_neg (by omega)]))⟩
 intro i RB Rs w13 hIw13 ih14
 obtain ⟨hi, hRs, hO1⟩ := hIw13
 show Run _ _ _ _ [(10, _), (0, _), (1, _), (2, _), (7, _), (8, _), (9, _)] _ _
 refine run_seq <| run_seq <| run_region <| rl_v rfl rfl rfl (ov_move rfl rfl) <| rl_v rfl rfl rfl (ov_move rfl rfl) <| rl_v rfl rfl rfl (ov_lss rfl rfl rfl) <| rl_nil ?_
 first | refine run_cond_dec rfl (fun hin => ?_) (fun hin => ?_) | refine run_cond rfl (fun hin => ?_) (fun hin => ?_)
 ·refine run_skip <| run_seq <| run_block <| run_seq <| run_region <| rl_v rfl rfl rfl (ov_move rfl rfl) <| rl_v rfl rfl rfl (ov_move rfl rfl) <| rl_v rfl rfl rfl (ov_move rfl rfl) <| rl_ow rfl (ow_make (n) rfl rfl rfl Try.underlying23 info_2 rfl hO1 rfl rfl (by rfl) (by rfl) ⟨by omega, by omega⟩) ?_
  rintro _ w15 ⟨b48, rfl, hO16, hs17⟩
  refine rl_v rfl rfl rfl (ov_index1 rfl Try.underlying22 (by kernel_rfl) rfl rfl ⟨by omega, by omega⟩ rfl) ?_
  refine rl_ow rfl (ow_store rfl rfl (by kernel_rfl) hO16 3 rfl rfl ⟨by omega, by omega⟩ rfl rfl) ?_
  rintro _ w18 ⟨rfl, hO19, hs20⟩
  have hO2 := (hO19.congrI 3 rfl (G' := outG n (upd RB i b48) (i + 1)) fun r _ _ => outG_upd n RB i b48 r).congrI 0 rfl (G' := rowG (DD N L D0) i 0) fun c c0 _ => rowG_zero _ _ _ c0
  refine rl_nil <| run_seq <| run_region <| rl_v rfl rfl rfl (ov_assign rfl rfl) <| rl_nil <| run_block <| Run.keep [0, 1, 2, 7, 8, 9, 10, 11] (F' := [(0, _), (1, _), (2, _), (7, _), (8, _), (9, _), (10, _), (11, _)]) rfl <| run_loop1 (fun (j : Int) => [(11, .int .i64 j)]) [0, 1, 2, 7, 8, 9, 10] (fun (j : Int) (w21 : World) => (0 ≤ j ∧ j ≤ n) ∧ Own w.heap.size w w21 (some (vch b48 2 n (rowG (DD N L D0) i j)) :: some (lch b9 26 [iv n, iv 3, .slice none 0 0, .slice (some ⟨b38, 0, none⟩) n n]) :: some (vch b38 2 n (fun _ => iv 0)) :: some (vch b35 23 n (outG n (upd RB i b48) (i + 1))) :: Rs)) (fun (j : Int) => ((n : Int) - j).toNat) (0) ?_ (And.intro (by exact slot_int rfl (by first | omega)) (And.intro rfl (And.intro rfl (And.intro rfl (And.intro rfl (And.intro rfl (And.intro rfl (And.intro rfl trivial)))))))) ?_
  ·exact ⟨by omega, hO2⟩
  intro j w21 hIw21 ih22
  obtain ⟨hj, hO3⟩ := hIw21
  show Run _ _ _ _ [(11, _), (0, _), (1, _), (2, _), (7, _), (8, _), (9, _), (10, _)] _ _
  refine run_seq <| run_seq <| run_region_join 67 (.bool (decide (j < n ∧ i < N ∧ j < L i))) [0, 1, 2, 7, 8, 9, 10, 11] (fun hk23 => ?_) ?_
  ·refine rl_v rfl rfl rfl (ov_move rfl rfl) <| rl_v rfl rfl rfl (ov_move rfl rfl) <| rl_v rfl rfl rfl (ov_lss rfl rfl rfl) <| rl_v rfl rfl rfl (ov_move rfl rfl) ?_
   first | refine rl_split_dec 53 rfl (fun hg24 => ?_) (fun hg24 => ?_) | refine rl_split 53 rfl (fun hg24 => ?_) (fun hg24 => ?_)
   ·refine rl_gv rfl rfl rfl rfl rfl (ov_move rfl rfl) <| rl_gv rfl rfl rfl rfl rfl (ov_move rfl rfl) <| rl_gv rfl rfl rfl rfl rfl (ov_len rfl Try.underlying22 rfl) <| rl_gv rfl rfl rfl rfl rfl (ov_lss rfl rfl rfl) <| rl_v rfl rfl rfl (ov_pick_t rfl rfl rfl) <| rl_v rfl rfl rfl (ov_move rfl rfl) ?_
    first | refine rl_split_dec 59 rfl (fun hg25 => ?_) (fun hg25 => ?_) | refine rl_split 59 rfl (fun hg25 => ?_) (fun hg25 => ?_)
    ·refine rl_gv rfl rfl rfl rfl rfl (ov_move rfl rfl) <| rl_gv rfl rfl rfl rfl rfl (ov_move rfl rfl) <| rl_gv rfl rfl rfl rfl rfl (ov_move rfl rfl) <| rl_gv rfl rfl rfl rfl rfl (ov_index1 rfl Try.underlying22 (by kernel_rfl) rfl rfl ⟨by omega, by omega⟩ (by exact (hga (by omega)))) ?_
     refine rl_gv rfl rfl rfl rfl rfl (ov_load rfl Try.underlying23 rfl rfl (by exact hrow _ hO3.below i (by omega) (by omega))) ?_
     refine rl_gv rfl rfl rfl rfl rfl (ov_len rfl Try.underlying23 rfl) <| rl_gv rfl rfl rfl rfl rfl (ov_lss rfl rfl rfl) <| rl_v rfl rfl rfl (ov_pick_t rfl rfl rfl) ?_
     refine rl_nil (hk23 _ (jbd rfl (by omega)) (And.intro rfl (And.intro rfl (And.intro rfl (And.intro rfl (And.intro rfl (And.intro rfl (And.intro rfl (And.intro rfl trivial)))))))))
    ·refine rl_gskip rfl rfl rfl rfl rfl rfl <| rl_gskip rfl rfl rfl rfl rfl rfl <| rl_gskip rfl rfl rfl rfl rfl rfl <| rl_gskip rfl rfl rfl rfl rfl rfl <| rl_gskip rfl rfl rfl rfl rfl rfl <| rl_gskip rfl rfl rfl rfl rfl rfl <| rl_gskip rfl rfl rfl rfl rfl rfl <| rl_v rfl rfl rfl (ov_pick_f rfl rfl rfl) ?_
     refine rl_nil (hk23 _ (jbf rfl (by omega)) (And.intro rfl (And.intro rfl (And.intro rfl (And.intro rfl (And.intro rfl (And.intro rfl (And.intro rfl (And.intro rfl trivial)))))))))
   ·refine rl_gskip rfl rfl rfl rfl rfl rfl <| rl_gskip rfl rfl rfl rfl rfl rfl <| rl_gskip rfl rfl rfl rfl rfl rfl <| rl_gskip rfl rfl rfl rfl rfl rfl <| rl_v rfl rfl rfl (ov_pick_f rfl rfl rfl) <| rl_v rfl rfl rfl (ov_move rfl rfl) <| rl_gskip rfl rfl rfl rfl rfl rfl <| rl_gskip rfl rfl rfl rfl rfl rfl <| rl_gskip rfl rfl rfl rfl rfl rfl <| rl_gskip rfl rfl rfl rfl rfl rfl <| rl_gskip rfl rfl rfl rfl rfl rfl <| rl_gskip rfl rfl rfl rfl rfl rfl <| rl_gskip rfl rfl rfl rfl rfl rfl <| rl_v rfl rfl rfl (ov_pick_f rfl rfl rfl) ?_
    refine rl_nil (hk23 _ (jbf rfl (by omega)) (And.intro rfl (And.intro rfl (And.intro rfl (And.intro rfl (And.intro rfl (And.intro rfl (And.intro rfl (And.intro rfl trivial)))))))))
  ·show Run _ _ _ _ [(67, _), (0, _), (1, _), (2, _), (7, _), (8, _), (9, _), (10, _), (11, _)] _ _
   first | refine run_cond_dec rfl (fun h2 => ?_) (fun h2 => ?_) | refine run_cond rfl (fun h2 => ?_) (fun h2 => ?_)
   ·refine run_skip <| run_seq <| run_block <| run_seq <| run_region <| rl_v rfl rfl rfl (ov_move rfl rfl) <| rl_v rfl rfl rfl (ov_move rfl rfl) <| rl_v rfl rfl rfl (ov_neq rfl rfl rfl) <| rl_nil ?_
    first | refine run_cond_dec rfl (fun h3 => ?_) (fun h3 => ?_) | refine run_cond rfl (fun h3 => ?_) (fun h3 => ?_)
    ·have hrow48 : ∀ w', Own w.heap.size w w' [some (vch b35 23 n (outG n (upd RB i b48) (i + 1)))] → w'.cell? ⟨b35, 0 + i.toNat, none⟩ = some (.slice (some ⟨b48, 0, none⟩) n n) := fun w' hS => by
      have := hS.cellI 0 rfl i (by omega) (by omega)
      rw [this]
      unfold outG upd
      rw [if_pos (by omega), if_pos rfl]
     refine run_held (fun w' => Own w.heap.size w w' ([some (vch b35 23 n (outG n (upd RB i b48) (i + 1)))])) mixed ?_
     have hO27 := hO3.drew
     generalize World.drew w21 = w26 at hO27 ⊢
     have hS28 : Own w.heap.size w w26 ([some (vch b35 23 n (outG n (upd RB i b48) (i + 1)))]) := by exact hO27.sub (.cons _ (.cons _ (.cons _ (.cons_cons _ (List.nil_sublist _)))))
     refine rh_v 0 rfl (by kernel_rfl) rfl rfl rfl hS28 (fun _ hS => ov_move rfl rfl) ?_
     refine rh_v 1 rfl (by kernel_rfl) rfl rfl rfl hS28 (fun _ hS => ov_move rfl rfl) ?_
     refine rh_v 2 rfl (by kernel_rfl) rfl rfl rfl hS28 (fun _ hS => ov_index1 rfl Try.underlying22 (by kernel_rfl) rfl rfl ⟨by omega, by omega⟩ (by rfl)) ?_
     refine rh_v 3 rfl (by kernel_rfl) rfl rfl rfl hS28 (fun _ hS => ov_load rfl Try.underlying23 rfl rfl (by exact hrow48 _ hS)) ?_
     refine rh_v 4 rfl (by kernel_rfl) rfl rfl rfl hS28 (fun _ hS => ov_move rfl rfl) ?_
     refine rh_v 5 rfl (by kernel_rfl) rfl rfl rfl hS28 (fun _ hS => ov_move rfl rfl) ?_
     refine rh_v 6 rfl (by kernel_rfl) rfl rfl rfl hS28 (fun _ hS => ov_move rfl rfl) ?_
     refine rh_v 7 rfl (by kernel_rfl) rfl rfl rfl hS28 (fun _ hS => ov_index1 rfl Try.underlying22 (by kernel_rfl) rfl rfl ⟨by omega, by omega⟩ (by exact (hga (by omega)))) ?_
     refine rh_v 8 rfl (by kernel_rfl) rfl rfl rfl hS28 (fun _ hS => ov_load rfl Try.underlying23 rfl rfl (by exact hrow _ hS.below i (by omega) (by omega))) ?_
     refine rh_v 9 rfl (by kernel_rfl) rfl rfl rfl hS28 (fun _ hS => ov_move rfl rfl) ?_
     refine rh_v 10 rfl (by kernel_rfl) rfl rfl rfl hS28 (fun _ hS => ov_index1 rfl Try.underlying23 (by kernel_rfl) rfl rfl ⟨by omega, by omega⟩ (by exact (hra i (by omega) (by omega) (by omega)))) ?_
     refine rh_v 11 rfl (by kernel_rfl) rfl rfl rfl hS28 (fun _ hS => ov_load rfl Try.underlying2 rfl rfl (by exact hel _ hS.below i (by omega) (by omega) j (by omega) (by omega))) ?_
     refine rh_any1 12 (by kernel_rfl) ?_
     refine rc_op rfl rfl (ow_call2 callable_4 rfl rfl rfl rfl rfl (small_any (D0 i j) 30 _ (by decide) (by decide)) (by intro e w' hp; obtain ⟨rfl, hw85⟩ := hp; exact ⟨_, rfl⟩)) ?_
     rintro _ w31 ⟨_, v29, he32, rfl, hp30⟩
     obtain ⟨rfl, hw85⟩ := hp30
     injection he32 with he32; subst he32
     subst hw85
     have hS33 : Own w.heap.size w w31 ([some (vch b35 23 n (outG n (upd RB i b48) (i + 1)))]) := by exact hO27.sub (.cons _ (.cons _ (.cons _ (.cons_cons _ (List.nil_sublist _)))))
     refine ⟨hS33, ?_⟩
     refine rh_v 13 rfl (by kernel_rfl) rfl rfl rfl hS33 (fun _ hS => ov_index1 rfl Try.underlying23 (by kernel_rfl) rfl rfl ⟨by omega, by omega⟩ (by rfl)) ?_
     refine rh_any1 14 (by kernel_rfl) ?_
     refine rc_op rfl rfl (ow_storeI rfl rfl (by kernel_rfl) hO27 0 rfl rfl ⟨by omega, by omega⟩ rfl) ?_
     rintro _ w34 ⟨rfl, hO35, hs36⟩
     have hS37 : Own w.heap.size w w34 ([some (vch b35 23 n (outG n (upd RB i b48) (i + 1)))]) := by exact hO35.sub (.cons _ (.cons _ (.cons _ (.cons_cons _ (List.nil_sublist _)))))
     refine ⟨hS37, ?_⟩
     have e48 : smallV (D0 i j) 30 = DD N L D0 i j := (if_pos ⟨fun e => h3 e.symm, h2.2.1, h2.2.2⟩).symm
     rw [e48] at hO35
     refine rh_done (by kernel_rfl) ?_
     refine run_inBlock <| run_region <| rl_v rfl rfl rfl (ov_move rfl rfl) <| rl_v rfl rfl rfl (ov_add rfl rfl rfl (by omega)) ?_
     refine rl_v rfl rfl rfl (ov_assign rfl rfl) <| rl_nil ?_
     refine Run.use (ih22 (j + 1) _ ?_ ?_) (And.intro (by exact slot_int rfl (by first | omega)) (And.intro rfl (And.intro rfl (And.intro rfl (And.intro rfl (And.intro rfl (And.intro rfl (And.intro rfl trivial))))))))
     ·first | omega | (dsimp only; omega)
     ·exact ⟨by omega, hO35.congrI 0 rfl fun c _ _ => by rw [← rowG_upd (DD N L D0) i j c]; unfold upd rowG; split <;> rfl⟩
    ·refine run_skip <| run_inBlock <| run_region <| rl_v rfl rfl rfl (ov_move rfl rfl) <| rl_v rfl rfl rfl (ov_add rfl rfl rfl (by omega)) ?_
     refine rl_v rfl rfl rfl (ov_assign rfl rfl) <| rl_nil ?_
     refine Run.use (ih22 (j + 1) _ ?_ ?_) (And.intro (by exact slot_int rfl (by first | omega)) (And.intro rfl (And.intro rfl (And.intro rfl (And.intro rfl (And.intro rfl (And.intro rfl (And.intro rfl trivial))))))))
     ·first | omega | (dsimp only; omega)
     ·exact ⟨by omega, hO3.congrI 0 rfl fun c _ _ => rowG_same _ i j c (fun e => if_neg fun h => h.1 e) (by omega)⟩
   ·obtain ⟨Rs2, hRs2⟩ : ∃ Rs2, Rs2 = some (vch b48 2 n (fun c => iv (DD N L D0 i c))) :: Rs := ⟨_, rfl⟩
    have hO4 : Own w.heap.size w w21 (some (lch b9 26 [iv n, iv 3, .slice none 0 0, .slice (some ⟨b38, 0, none⟩) n n]) :: some (vch b38 2 n (fun _ => iv 0)) :: some (vch b35 23 n (outG n (upd RB i b48) (i + 1))) :: Rs2) := by
     rw [hRs2]
     exact (hO3.congrI 0 rfl (G' := fun c => iv (DD N L D0 i c)) fun c _ c1 => rowG_end N L D0 n i j c h2 c1).perm (List.perm_middle (l₁ := [_, _, _])).symm
    have hR2 : ∀ r : Int, 0 ≤ r → r < i + 1 → some (vch (upd RB i b48 r) 2 n (fun c => iv (DD N L D0 r c))) ∈ Rs2 := fun r r0 r1 => by
     rw [hRs2]
     unfold upd
     by_cases e : r = i
     ·rw [if_pos e, e]; exact List.mem_cons_self ..
     ·rw [if_neg e]; exact List.mem_cons_of_mem _ (hRs r r0 (by omega))
    refine run_exit rfl <| run_inBlock <| run_region <| rl_v rfl rfl rfl (ov_move rfl rfl) <| rl_v rfl rfl rfl (ov_add rfl rfl rfl (by omega)) ?_
    refine rl_v rfl rfl rfl (ov_assign rfl rfl) <| rl_nil ?_
    refine Run.use (ih14 (i + 1) (upd RB i b48) (Rs2) _ ?_ ?_) (And.intro (by exact slot_int rfl (by first | omega)) (And.intro rfl (And.intro rfl (And.intro rfl (And.intro rfl (And.intro rfl (And.intro rfl trivial)))))))
    ·first | omega | (dsimp only; omega)
    ·exact ⟨by omega, hR2, hO4⟩
 ·obtain rfl : i = n := by omega
  have hv := DD_valid N L D0 (n := n) (by omega) (by omega)
  have hO5 := hO1.congrI 2 rfl (G' := fun r => .slice (some ⟨RB r, 0, none⟩) n n) fun r _ r1 => if_pos r1
  have hIT := tab_reads (E := fun _ => 2) hO5 (k := 2) rfl (F := fun r c => iv (DD N L D0 r c)) fun r r0 r1 => List.mem_cons_of_mem _ (List.mem_cons_of_mem _ (List.mem_cons_of_mem _ (hRs r r0 r1)))
  refine run_exit rfl <| run_seq <| run_region <| rl_v rfl rfl rfl (ov_move rfl rfl) ?_
  refine rl_call callable_5 rfl rfl rfl rfl rfl rfl (positions_any2 (some ⟨b35, 0, none⟩) n n (DD N L D0) _ hv hIT) (fun e38 w39 hp40 => ?_)
  obtain ⟨b12, rfl, hOp⟩ := hp40
  refine ⟨_, rfl, ?_⟩
  have hO41 := hO5.join hOp
  refine rl_v rfl rfl rfl (ov_move rfl rfl) <| rl_v rfl rfl rfl (ov_extract rfl rfl (by rfl)) ?_
  refine rl_v rfl rfl rfl (ov_extract rfl rfl (by rfl)) ?_
  refine rl_v rfl rfl rfl (ov_assign rfl rfl) <| rl_v rfl rfl rfl (ov_assign rfl rfl) <| rl_nil <| run_seq <| run_region <| rl_v rfl rfl rfl (ov_move rfl rfl) ?_
  refine rl_call callable_6 rfl rfl rfl rfl rfl rfl (settle_any (some ⟨b35, 0, none⟩) n n (DD N L D0) _ hv (hIT.later hOp.below)) (fun e42 w43 hp44 => ?_)
  obtain ⟨K, v14, c14, rfl, hK, hKn, hR14, hOs⟩ := hp44
  refine ⟨_, rfl, ?_⟩
  have hO45 := hO41.join hOs
  have hO6 := hO45.sub (H' := [c14, some (vch b12 2 n (fun i => iv (ps n (DD N L D0) i))), some (lch b9 26 [iv n, iv 3, .slice none 0 0, .slice (some ⟨b38, 0, none⟩) n n]), some (vch b38 2 n (fun _ => iv 0))]) (.cons_cons _ (.cons_cons _ (.cons_cons _ (.cons_cons _ (List.nil_sublist _)))))
  obtain ⟨a14, x14, rfl⟩ := hR14.val
  have hfew := hK.few (ps_sum n _) (by omega)
  generalize hD : DD N L D0 = D at *
  refine rl_v rfl rfl rfl (ov_move rfl rfl) <| rl_v rfl rfl rfl (ov_extract rfl rfl (by rfl)) ?_
  refine rl_v rfl rfl rfl (ov_extract rfl rfl (by rfl)) ?_
  refine rl_v rfl rfl rfl (ov_assign rfl rfl) <| rl_v rfl rfl rfl (ov_assign rfl rfl) <| rl_nil <| run_seq <| run_seq <| run_region <| rl_v rfl rfl rfl (ov_move rfl rfl) <| rl_v rfl rfl rfl (ov_neq rfl rfl rfl) <| rl_v rfl rfl rfl (ov_move rfl rfl) ?_
  first | refine rl_noD 99 rfl (fun h => h rfl) ?_ | refine rl_no 99 rfl (fun h => h rfl) ?_
  refine rl_gv rfl rfl rfl rfl rfl (ov_move rfl rfl) <| rl_gv rfl rfl rfl rfl rfl (ov_neq rfl rfl rfl) <| rl_v rfl rfl rfl (ov_pick_f rfl rfl rfl) <| rl_v rfl rfl rfl (ov_move rfl rfl) ?_
  first | refine rl_noD 103 rfl (fun h => h rfl) ?_ | refine rl_no 103 rfl (fun h => h rfl) ?_
  refine rl_gv rfl rfl rfl rfl rfl (ov_move rfl rfl) <| rl_gv rfl rfl rfl rfl rfl (ov_len rfl Try.underlying23 rfl) <| rl_gv rfl rfl rfl rfl rfl (ov_move rfl rfl) <| rl_gv rfl rfl rfl rfl rfl (ov_neq rfl rfl rfl) <| rl_v rfl rfl rfl (ov_pick_f rfl rfl rfl) <| rl_nil ?_
  first | refine run_cond_dec rfl (fun bad => ?_) (fun bad => ?_) | refine run_cond rfl (fun bad => ?_) (fun bad => ?_)
  ·exfalso; exact bad rfl
  ·refine run_skip <| run_seq <| run_seq <| run_region <| rl_v rfl rfl rfl (ov_assign rfl rfl) <| rl_nil <| run_block <| Run.keep [1, 2, 7, 9, 12, 14, 16] (F' := [(1, _), (2, _), (7, _), (9, _), (12, _), (14, _), (16, _)]) rfl <| run_loop4 (fun (k : Int) (kn : Nat) (v : Value) (cm : Option Blk) => [(16, .int .i64 k)]) [1, 2, 7, 9, 12, 14] (fun (k : Int) (kn : Nat) (v : Value) (cm : Option Blk) (w46 : World) => k = kn ∧ kn ≤ n ∧ IRow v 2 kn (fun i => iv (mnyP n M D G i)) cm ∧ Own w.heap.size w w46 [cm, c14, some (vch b12 2 n (fun i => iv (ps n D i))), some (lch b9 26 [iv n, iv 3, v, .slice (some ⟨b38, 0, none⟩) n n]), some (vch b38 2 n (fun _ => iv 0))]) (fun (k : Int) (kn : Nat) (v : Value) (cm : Option Blk) => n - kn) (0) (0) (.slice none 0 0) (none) ?_ (And.intro (by exact slot_int rfl (by first | omega)) (And.intro rfl (And.intro rfl (And.intro rfl (And.intro rfl (And.intro rfl (And.intro rfl trivial))))))) ?_
   ·exact ⟨rfl, by omega, IRow.nil _ _, hO6.nil_cons⟩
   intro k kn v cm w46 hIw46 ih47
   obtain ⟨hk, hk1, hrm, hO7⟩ := hIw46
   show Run _ _ _ _ [(16, _), (1, _), (2, _), (7, _), (9, _), (12, _), (14, _)] _ _
   refine run_seq <| run_seq <| run_region <| rl_v rfl rfl rfl (ov_move rfl rfl) <| rl_v rfl rfl rfl (ov_move rfl rfl) <| rl_v rfl rfl rfl (ov_lss rfl rfl rfl) <| rl_nil ?_
   first | refine run_cond_dec rfl (fun hkn => ?_) (fun hkn => ?_) | refine run_cond rfl (fun hkn => ?_) (fun hkn => ?_)
   ·refine run_skip <| run_seq <| run_block <| run_seq <| run_region <| rl_v rfl rfl rfl (ov_assign rfl rfl) <| rl_nil <| run_seq <| run_seq <| run_region <| rl_v rfl rfl rfl (ov_move rfl rfl) <| rl_v rfl rfl rfl (ov_move rfl rfl) <| rl_v rfl rfl rfl (ov_len rfl Try.underlying23 rfl) <| rl_v rfl rfl rfl (ov_lss rfl rfl rfl) <| rl_nil <| Run.keep [1, 2, 7, 9, 12, 14, 16, 17, 117] (F' := [(1, _), (2, _), (7, _), (9, _), (12, _), (14, _), (16, _), (17, _), (117, _)]) rfl <| run_join1 (fun (m : Int) => [(17, .int .i64 m)]) [1, 2, 7, 9, 12, 14, 16] (fun (m : Int) (w48 : World) => m = (if k < M then smallV (G k) 50 else 0) ∧ Own w.heap.size w w48 [cm, c14, some (vch b12 2 n (fun i => iv (ps n D i))), some (lch b9 26 [iv n, iv 3, v, .slice (some ⟨b38, 0, none⟩) n n]), some (vch b38 2 n (fun _ => iv 0))]) (fun hk49 => ?_) ?_
    ·first | refine run_cond_dec rfl (fun hkM => ?_) (fun hkM => ?_) | refine run_cond rfl (fun hkM => ?_) (fun hkM => ?_)
     ·refine run_region <| rl_v rfl rfl rfl (ov_move rfl rfl) <| rl_v rfl rfl rfl (ov_move rfl rfl) <| rl_v rfl rfl rfl (ov_index1 rfl Try.underlying23 (by kernel_rfl) rfl rfl ⟨by omega, by omega⟩ (by exact (hma (by omega)))) ?_
      refine rl_v rfl rfl rfl (ov_load rfl Try.underlying2 rfl rfl (by exact hmr _ hO7.below k (by omega) (by omega))) ?_
      refine rl_call callable_4 rfl rfl rfl rfl rfl rfl (small_any (G k) 50 _ (by decide) (by decide)) (fun e50 w51 hp52 => ?_)
      obtain ⟨rfl, hw17⟩ := hp52
      refine ⟨_, rfl, ?_⟩
      subst hw17
      refine rl_v rfl rfl rfl (ov_assign rfl rfl) <| rl_nil ?_
      refine Run.use (hk49 (smallV (G k) 50) _ ?_) (And.intro (by exact slot_int rfl (by first | omega)) (And.intro rfl (And.intro rfl (And.intro rfl (And.intro rfl (And.intro rfl (And.intro rfl (And.intro rfl trivial))))))))
      exact ⟨(if_pos hkM).symm, hO7⟩
     ·refine run_skip ?_
      refine Run.use (hk49 (0) _ ?_) (And.intro (by exact slot_int rfl (by first | omega)) (And.intro rfl (And.intro rfl (And.intro rfl (And.intro rfl (And.intro rfl (And.intro rfl (And.intro rfl trivial))))))))
      exact ⟨(if_neg hkM).symm, hO7⟩
    ·intro m w48 hJw48
     obtain ⟨hm17, hO8⟩ := hJw48
     show Run _ _ _ _ [(17, _), (1, _), (2, _), (7, _), (9, _), (12, _), (14, _), (16, _)] _ _
     have hpr := ps_rng hv k
     have hsr := small_rng (G k) 50 (by decide) (by decide)
     have hm50 : 0 ≤ m ∧ m ≤ 50 := by rw [hm17]; split <;> omega
     refine run_late (fun w' => Own w.heap.size w w' ([some (vch b12 2 n (fun i => iv (ps n D i))), some (lch b9 26 [iv n, iv 3, v, .slice (some ⟨b38, 0, none⟩) n n])])) 13 mixed ?_
     have hO54 := hO8.drew
     generalize World.drew w48 = w53 at hO54 ⊢
     have hS55 : Own w.heap.size w w53 ([some (vch b12 2 n (fun i => iv (ps n D i))), some (lch b9 26 [iv n, iv 3, v, .slice (some ⟨b38, 0, none⟩) n n])]) := by first | exact hO54.sub (.cons _ (.cons _ (.cons_cons _ (.cons_cons _ (List.nil_sublist _))))) | exact hO54.sub (.cons _ (.cons _ (.cons _ (.cons_cons _ (.cons_cons _ (List.nil_sublist _))))))
     refine rhl_v 0 rfl (by kernel_rfl) rfl rfl rfl hS55 (fun _ hS => ov_fieldS rfl Try.underlying26 rfl (fo := 2) rfl (by kernel_rfl) rfl) ?_
     refine rhl_v 1 rfl (by kernel_rfl) rfl rfl rfl hS55 (fun _ hS => ov_load rfl Try.underlying23 rfl rfl (by exact hS.cellL 1 rfl (off := 2) rfl)) ?_
     refine rhl_v 2 rfl (by kernel_rfl) rfl rfl rfl hS55 (fun _ hS => ov_move rfl rfl) ?_
     refine rhl_v 3 rfl (by kernel_rfl) rfl rfl rfl hS55 (fun _ hS => ov_move rfl rfl) ?_
     refine rhl_v 4 rfl (by kernel_rfl) rfl rfl rfl hS55 (fun _ hS => ov_move rfl rfl) ?_
     refine rhl_v 5 rfl (by kernel_rfl) rfl rfl rfl hS55 (fun _ hS => ov_index1 rfl Try.underlying23 (by kernel_rfl) rfl rfl ⟨by omega, by omega⟩ (by rfl)) ?_
     refine rhl_v 6 rfl (by kernel_rfl) rfl rfl rfl hS55 (fun _ hS => ov_load rfl Try.underlying2 rfl rfl (by exact hS.cellI 0 rfl k (by omega) (by omega))) ?_
     refine rhl_v 7 rfl (by kernel_rfl) rfl rfl rfl hS55 (fun _ hS => ov_neg rfl rfl (by omega)) ?_
     refine rhl_v 8 rfl (by kernel_rfl) rfl rfl rfl hS55 (fun _ hS => ov_max rfl rfl rfl) ?_
     refine rhl_v 9 rfl (by kernel_rfl) rfl rfl rfl hS55 (fun _ hS => ov_add rfl rfl rfl (by omega)) ?_
     refine rhl_any1 10 (by kernel_rfl) ?_
     refine rcl_op rfl rfl (ow_one rfl rfl rfl Try.underlying23 info_2 rfl hO54 rfl rfl) ?_
     rintro _ w56 ⟨b1, rfl, hO57, hs58⟩
     have hS59 : Own w.heap.size w w56 ([some (vch b12 2 n (fun i => iv (ps n D i))), some (lch b9 26 [iv n, iv 3, v, .slice (some ⟨b38, 0, none⟩) n n])]) := by first | exact hO57.sub (.cons _ (.cons _ (.cons_cons _ (.cons_cons _ (List.nil_sublist _))))) | exact hO57.sub (.cons _ (.cons _ (.cons _ (.cons_cons _ (.cons_cons _ (List.nil_sublist _))))))
     refine ⟨hS59, ?_⟩
     refine rhl_any1 11 (by kernel_rfl) ?_
     refine rcl_op rfl rfl (ow_app1 rfl rfl rfl Try.underlying23 info_2 rfl hO57 0 hrm rfl rfl rfl rfl ⟨by omega, by omega⟩) ?_
     rintro _ w60 ⟨v5, c5, rfl, hO61, hr5, hs62⟩
     have hS63 : Own w.heap.size w w60 ([some (vch b12 2 n (fun i => iv (ps n D i))), some (lch b9 26 [iv n, iv 3, v, .slice (some ⟨b38, 0, none⟩) n n])]) := by first | exact hO61.sub (.cons _ (.cons _ (.cons_cons _ (.cons_cons _ (List.nil_sublist _))))) | exact hO61.sub (.cons _ (.cons _ (.cons _ (.cons_cons _ (.cons_cons _ (List.nil_sublist _))))))
     refine ⟨hS63, ?_⟩
     obtain ⟨a5, x5, rfl⟩ := hr5.val
     refine rhl_v 12 rfl (by kernel_rfl) rfl rfl rfl hS63 (fun _ hS => ov_fieldS rfl Try.underlying26 rfl (fo := 2) rfl (by kernel_rfl) rfl) ?_
     refine rhl_any1 13 (by kernel_rfl) ?_
     refine rcl_last rfl rfl (ow_storeL rfl rfl (by kernel_rfl) hO61 3 rfl rfl rfl rfl rfl) ?_
     rintro _ w64 ⟨rfl, hO65, hs66⟩
     refine rhl_done (by kernel_rfl) ?_
     refine run_inBlock <| run_region <| rl_v rfl rfl rfl (ov_move rfl rfl) <| rl_v rfl rfl rfl (ov_add rfl rfl rfl (by omega)) ?_
     refine rl_v rfl rfl rfl (ov_assign rfl rfl) <| rl_nil ?_
     refine Run.use (ih47 (k + 1) (kn + 1) (.slice a5 (kn + 1) x5) (c5) _ ?_ ?_) (And.intro (by exact slot_int rfl (by first | omega)) (And.intro rfl (And.intro rfl (And.intro rfl (And.intro rfl (And.intro rfl (And.intro rfl trivial)))))))
     ·first | omega | (dsimp only; omega)
     ·exact ⟨by omega, by omega, hr5.congr fun i i0 i1 => mny_upd hk hm17 i, hO65⟩
   ·obtain rfl : n = kn := by omega
    obtain ⟨a16, x16, rfl⟩ := hrm.val
    obtain ⟨f1, hf1l, hf1⟩ : ∃ f1 : List Int, f1.length = n ∧ ∀ i : Int, 0 ≤ i → i < n → gl f1 i = mnyP n M D G i := ⟨(List.range n).map fun (j : Nat) => mnyP n M D G (j : Int), by simp, fun i i0 i1 => gl_range n _ i0 i1⟩
    have hf1r : ∀ x ∈ f1, 0 ≤ x ∧ x ≤ 1000000000000 := fun x hx => by
     obtain ⟨i, hi, rfl⟩ := List.getElem_of_mem hx
     have h1 := hf1 i (by omega) (by omega)
     have h2 := mnyP_rng (n := n) (M := M) (G := G) hv i
     unfold gl at h1
     rw [List.getD_eq_getElem?_getD, Int.toNat_natCast, List.getElem?_eq_getElem hi] at h1
     have h3 : f1[i] = mnyP n M D G i := h1
     omega
    have hf2r : ∀ x ∈ List.replicate n (0 : Int), 0 ≤ x ∧ x ≤ 1000000000000 := fun x hx => by have := (List.mem_replicate.1 hx).2; omega
    obtain ⟨RR, hRR⟩ : ∃ RR, RR = [cm, c14, some (vch b12 2 n (fun i => iv (ps n D i))), some (lch b9 26 [iv n, iv 3, .slice a16 n x16, .slice (some ⟨b38, 0, none⟩) n n]), some (vch b38 2 n (fun _ => iv 0))] := ⟨_, rfl⟩
    have k0 : RR[0]? = some cm := by rw [hRR]; rfl
    have k1 : RR[1]? = some c14 := by rw [hRR]; rfl
    have k2 : RR[2]? = some (some (vch b12 2 n (fun i => iv (ps n D i)))) := by rw [hRR]; rfl
    have k3 : RR[3]? = some (some (lch b9 26 [iv n, iv 3, .slice a16 n x16, .slice (some ⟨b38, 0, none⟩) n n])) := by rw [hRR]; rfl
    have k4 : RR[4]? = some (some (vch b38 2 n (fun _ => iv 0))) := by rw [hRR]; rfl
    have hO9 : Own w.heap.size w w46 RR := by rw [hRR]; exact hO7
    clear hRR
    have s1 : SrcI RR a16 n (gl f1) := fun B w0 w hO => (hrm.reads hO 0 k0).congr fun i i0 i1 => by rw [hf1 i i0 i1]
    have s2 : SrcI RR (some ⟨b38, 0, none⟩) n (gl (List.replicate n 0)) := fun B w0 w hO => (hO.reads 4 k4 n (Nat.le_refl _)).congr fun i hi => by show iv _ = iv _; rw [gl_repl]
    refine run_exit rfl <| run_seq <| run_region <| rl_v rfl rfl rfl (ov_loadW rfl Try.underlying26 rfl (by kernel_rfl) rfl hO9 3 (k3)) ?_
    refine rl_call callable_7 rfl rfl rfl rfl rfl rfl (newN n 3 f1 (List.replicate n 0) hf1l List.length_replicate a16 (some ⟨b38, 0, none⟩) x16 n w.heap.size _ w w46 hO9 s1 s2 (by omega) (by decide) hf1r hf2r) (fun e67 w68 hp69 => ?_)
    obtain ⟨A, rfl, hW⟩ := hp69
    refine ⟨_, rfl, ?_⟩
    refine rl_v rfl rfl rfl (ov_move rfl rfl) <| rl_v rfl rfl rfl (ov_extract rfl rfl (by rfl)) ?_
    refine rl_v rfl rfl rfl (ov_extract rfl rfl (by rfl)) ?_
    refine rl_v rfl rfl rfl (ov_assign rfl rfl) <| rl_v rfl rfl rfl (ov_assign rfl rfl) <| rl_nil <| run_seq <| run_seq <| run_region <| rl_v rfl rfl rfl (ov_move rfl rfl) <| rl_v rfl rfl rfl (ov_neq rfl rfl rfl) <| rl_v rfl rfl rfl (ov_move rfl rfl) ?_
    first | refine rl_split_dec 143 rfl (fun g1 => ?_) (fun g1 => ?_) | refine rl_split 143 rfl (fun g1 => ?_) (fun g1 => ?_)
    ·refine rl_gskip rfl rfl rfl rfl rfl rfl <| rl_gskip rfl rfl rfl rfl rfl rfl <| rl_v rfl rfl rfl (ov_pick_t rfl rfl rfl) <| rl_nil ?_
     exfalso; exact g1 rfl
    ·refine rl_gv rfl rfl rfl rfl rfl (ov_move rfl rfl) <| rl_gv rfl rfl rfl rfl rfl (ov_ptrnil rfl Try.underlying34 rfl) <| rl_v rfl rfl rfl (ov_pick_f rfl rfl rfl) <| rl_nil <| run_cond_f rfl ?_
     have hG0 := Good.init (mem := n) (pat := 3) (by omega) (by decide) (by omega) (by rw [List.length_replicate]) hf1r hf2r
     have hB0 : Begun n (ps n D) 3 f1 (List.replicate n 0) 0 (MW.init n 3 f1 (List.replicate n 0)) := ⟨Well.init hG0 fun x hx => (hf1r x hx).1, rfl⟩
     refine run_skip <| run_seq <| run_seq <| run_region <| rl_v rfl rfl rfl (ov_assign rfl rfl) <| rl_nil <| run_block <| Run.keep [2, 7, 9, 12, 14, 18, 20] (F' := [(2, _), (7, _), (9, _), (12, _), (14, _), (18, _), (20, _)]) rfl <| run_loop3 (fun (k : Int) (kn : Nat) (X : MW) => [(20, .int .i64 k)]) [2, 7, 9, 12, 14, 18] (fun (k : Int) (kn : Nat) (X : MW) (w71 : World) => k = kn ∧ kn ≤ K ∧ Begun n (ps n D) 3 f1 (List.replicate n 0) kn X ∧ phi X ≤ 4 * kn ∧ WAt w.heap.size w w71 A X [] RR) (fun (k : Int) (kn : Nat) (X : MW) => K - kn) (0) (0) (MW.init n 3 f1 (List.replicate n 0)) ?_ (And.intro (by exact slot_int rfl (by first | omega)) (And.intro rfl (And.intro rfl (And.intro rfl (And.intro rfl (And.intro rfl (And.intro rfl trivial))))))) ?_
     ·exact ⟨rfl, by omega, hB0, Nat.zero_le _, hW⟩
     intro k kn X w71 hIw71 ih72
     obtain ⟨hk, hkK, hB, hph, hW⟩ := hIw71
     show Run _ _ _ _ [(20, _), (2, _), (7, _), (9, _), (12, _), (14, _), (18, _)] _ _
     refine run_seq <| run_seq <| run_region <| rl_v rfl rfl rfl (ov_move rfl rfl) <| rl_v rfl rfl rfl (ov_move rfl rfl) <| rl_v rfl rfl rfl (ov_len rfl Try.underlying31 rfl) <| rl_v rfl rfl rfl (ov_lss rfl rfl rfl) <| rl_nil ?_
     first | refine run_cond_dec rfl (fun hkk => ?_) (fun hkk => ?_) | refine run_cond rfl (fun hkk => ?_) (fun hkk => ?_)
     ·obtain rfl : kn = k.toNat := by omega
      obtain ⟨b14, ha14, _, hr14⟩ := hR14.openW (by omega)
      have ham := hK.amount (ps_sum n D) (k := k.toNat) (by omega)
      have hmv := moved_le (ps_sum n D) hK (ps_rng hv) (k := k.toNat) (by omega)
      obtain ⟨hok, hstep⟩ := hB.step (ps_sum n D) hK (k := k.toNat) (by omega) (by omega) (by omega) (pay_ok (ps_sum n D) hK hf1l fun i i0 i1 => by rw [hf1 i i0 i1]; exact (mnyP_rng hv i).1)
      have hdl : X.deals.length = k.toNat := by rw [hB.deals, dealsT_len]
      have hbg := bag_phi X
      have hb0 := bcode_ok hok hB.well.yes.calm (by omega) (by omega)
      have hph2 := phi_begin X (dealT n (ps n D) k.toNat)
      obtain ⟨Kk, Nk, hO, hKk, hPl⟩ := hW.front
      have ha14f := fun (_ : True) => ha14
      refine run_skip <| run_seq <| run_block <| run_seq <| run_held (fun w' => Own w.heap.size w w' (RR)) mixed ?_
      have hO74 := hO.drew
      generalize World.drew w71 = w73 at hO74 ⊢
      have hS75 : Own w.heap.size w w73 (RR) := by first | exact hO74 | exact hO74.sub (List.sublist_append_left _ _)
      refine rh_v 0 rfl (by kernel_rfl) rfl rfl rfl hS75 (fun _ hS => ov_move rfl rfl) ?_
      refine rh_v 1 rfl (by kernel_rfl) rfl rfl rfl hS75 (fun _ hS => ov_move rfl rfl) ?_
      refine rh_v 2 rfl (by kernel_rfl) rfl rfl rfl hS75 (fun _ hS => ov_move rfl rfl) ?_
      refine rh_v 3 rfl (by kernel_rfl) rfl rfl rfl hS75 (fun _ hS => ov_index rfl Try.underlying31 (by kernel_rfl) (s := 3) rfl rfl ⟨by omega, by omega⟩ (by exact (ha14f trivial))) ?_
      refine rh_v 4 rfl (by kernel_rfl) rfl rfl rfl hS75 (fun _ hS => ov_fieldS rfl Try.underlying40 rfl (fo := 0) rfl (by kernel_rfl) rfl) ?_
      refine rh_v 5 rfl (by kernel_rfl) rfl rfl rfl hS75 (fun _ hS => ov_load rfl Try.underlying3 rfl rfl (by exact (show _ = some (iv (payer n (stP n (ps n D) k.toNat))) from hr14 hS 1 k1 k (by omega) (by omega) 0 (by decide)))) ?_
      refine rh_v 6 rfl (by kernel_rfl) rfl rfl rfl hS75 (fun _ hS => ov_add rfl rfl rfl (by omega)) ?_
      refine rh_v 7 rfl (by kernel_rfl) rfl rfl rfl hS75 (fun _ hS => ov_move rfl rfl) ?_
      refine rh_v 8 rfl (by kernel_rfl) rfl rfl rfl hS75 (fun _ hS => ov_move rfl rfl) ?_
      refine rh_v 9 rfl (by kernel_rfl) rfl rfl rfl hS75 (fun _ hS => ov_index rfl Try.underlying31 (by kernel_rfl) (s := 3) rfl rfl ⟨by omega, by omega⟩ (by exact (ha14f trivial))) ?_
      refine rh_v 10 rfl (by kernel_rfl) rfl rfl rfl hS75 (fun _ hS => ov_fieldS rfl Try.underlying40 rfl (fo := 1) rfl (by kernel_rfl) rfl) ?_
      refine rh_v 11 rfl (by kernel_rfl) rfl rfl rfl hS75 (fun _ hS => ov_load rfl Try.underlying3 rfl rfl (by exact (show _ = some (iv (getter n (stP n (ps n D) k.toNat))) from hr14 hS 1 k1 k (by omega) (by omega) 1 (by decide)))) ?_
      refine rh_v 12 rfl (by kernel_rfl) rfl rfl rfl hS75 (fun _ hS => ov_add rfl rfl rfl (by omega)) ?_
      refine rh_v 13 rfl (by kernel_rfl) rfl rfl rfl hS75 (fun _ hS => ov_move rfl rfl) ?_
      refine rh_v 14 rfl (by kernel_rfl) rfl rfl rfl hS75 (fun _ hS => ov_move rfl rfl) ?_
      refine rh_v 15 rfl (by kernel_rfl) rfl rfl rfl hS75 (fun _ hS => ov_index rfl Try.underlying31 (by kernel_rfl) (s := 3) rfl rfl ⟨by omega, by omega⟩ (by exact (ha14f trivial))) ?_
      refine rh_v 16 rfl (by kernel_rfl) rfl rfl rfl hS75 (fun _ hS => ov_fieldS rfl Try.underlying40 rfl (fo := 2) rfl (by kernel_rfl) rfl) ?_
      refine rh_v 17 rfl (by kernel_rfl) rfl rfl rfl hS75 (fun _ hS => ov_load rfl Try.underlying2 rfl rfl (by exact (show _ = some (iv (moved n (stP n (ps n D) k.toNat))) from hr14 hS 1 k1 k (by omega) (by omega) 2 (by decide)))) ?_
      refine rh_v 18 rfl (by kernel_rfl) rfl rfl rfl hS75 (fun _ hS => ov_buildL rfl lay_42 rfl (us := [_, _, _, _]) rfl) ?_
      refine rh_any1 19 (by kernel_rfl) ?_
      refine rc_op rfl rfl (ow_call2 callable_8 rfl rfl rfl rfl rfl (begin0 A X (dealT n (ps n D) k.toNat) w.heap.size RR w w73 hB.well.yes.good (by omega) hb0 (WAt.unfront (R := RR) hO74 hKk hPl)) (by intro e w' hp; obtain ⟨rfl, hW2⟩ := hp; exact ⟨_, rfl⟩)) ?_
      rintro _ w78 ⟨_, v76, he79, rfl, hp77⟩
      obtain ⟨rfl, hW2⟩ := hp77
      injection he79 with he79; subst he79
      have hO2 := hW2.own
      have hS80 : Own w.heap.size w w78 (RR) := by first | exact hO2 | exact hO2.sub (List.sublist_append_left _ _)
      refine ⟨hS80, ?_⟩
      refine rh_v 20 rfl (by kernel_rfl) rfl rfl rfl hS80 (fun _ hS => ov_move rfl rfl) ?_
      refine rh_v 21 rfl (by kernel_rfl) rfl rfl rfl hS80 (fun _ hS => ov_extract rfl rfl (by rfl)) ?_
      refine rh_v 22 rfl (by kernel_rfl) rfl rfl rfl hS80 (fun _ hS => ov_extract rfl rfl (by rfl)) ?_
      refine rh_v 23 rfl (by kernel_rfl) rfl rfl rfl hS80 (fun _ hS => ov_assign rfl rfl) ?_
      refine rh_v 24 rfl (by kernel_rfl) rfl rfl rfl hS80 (fun _ hS => ov_assign rfl rfl) ?_
      refine rh_done (by kernel_rfl) ?_
      refine run_seq <| run_region <| rl_v rfl rfl rfl (ov_move rfl rfl) <| rl_v rfl rfl rfl (ov_neq rfl rfl rfl) <| rl_nil ?_
      first | refine run_cond_dec rfl (fun bad => ?_) (fun bad => ?_) | refine run_cond rfl (fun bad => ?_) (fun bad => ?_)
      ·exfalso; exact bad rfl
      ·refine run_skip <| run_inBlock <| run_region <| rl_v rfl rfl rfl (ov_move rfl rfl) <| rl_v rfl rfl rfl (ov_add rfl rfl rfl (by omega)) ?_
       refine rl_v rfl rfl rfl (ov_assign rfl rfl) <| rl_nil ?_
       refine Run.use (ih72 (k + 1) (k.toNat + 1) (X.begin (dealT n (ps n D) k.toNat)) _ ?_ ?_) (And.intro (by exact slot_int rfl (by first | omega)) (And.intro rfl (And.intro rfl (And.intro rfl (And.intro rfl (And.intro rfl (And.intro rfl trivial)))))))
       ·first | omega | (dsimp only; omega)
       ·exact ⟨by omega, by omega, hstep, by omega, hW2⟩
     ·obtain rfl : K = kn := by omega
      have hOb := hW.own
      refine run_exit rfl <| run_seq <| run_seq <| run_region <| rl_v rfl rfl rfl (ov_assign rfl rfl) <| rl_nil <| run_block <| Run.keep [2, 7, 9, 12, 18, 23] (F' := [(2, _), (7, _), (9, _), (12, _), (18, _), (23, _)]) rfl <| run_loop2 (fun (k : Int) (X : MW) => [(23, .int .i64 k)]) [2, 7, 9, 12, 18] (fun (k : Int) (X : MW) (w81 : World) => 0 ≤ k ∧ Begun n (ps n D) 3 f1 (List.replicate n 0) K X ∧ phi X ≤ 4 * K ∧ WAt w.heap.size w w81 A X [] RR) (fun (k : Int) (X : MW) => (Q - k).toNat) (0) (X) ?_ (And.intro (by exact slot_int rfl (by first | omega)) (And.intro rfl (And.intro rfl (And.intro rfl (And.intro rfl (And.intro rfl trivial)))))) ?_
      ·exact ⟨by omega, hB, hph, hW⟩
      intro k X w81 hIw81 ih82
      obtain ⟨hk0, hB, hph, hW⟩ := hIw81
      show Run _ _ _ _ [(23, _), (2, _), (7, _), (9, _), (12, _), (18, _)] _ _
      have hOc := hW.own
      refine run_seq <| run_seq <| run_region_join 185 (.bool (decide (k < Q ∧ k < 30))) [2, 7, 9, 12, 18, 23] (fun hk83 => ?_) ?_
      ·refine rl_v rfl rfl rfl (ov_move rfl rfl) <| rl_v rfl rfl rfl (ov_move rfl rfl) <| rl_v rfl rfl rfl (ov_len rfl Try.underlying24 rfl) <| rl_v rfl rfl rfl (ov_lss rfl rfl rfl) <| rl_v rfl rfl rfl (ov_move rfl rfl) ?_
       first | refine rl_split_dec 182 rfl (fun q1 => ?_) (fun q1 => ?_) | refine rl_split 182 rfl (fun q1 => ?_) (fun q1 => ?_)
       ·refine rl_gv rfl rfl rfl rfl rfl (ov_move rfl rfl) <| rl_gv rfl rfl rfl rfl rfl (ov_lss rfl rfl rfl) <| rl_v rfl rfl rfl (ov_pick_t rfl rfl rfl) ?_
        refine rl_nil (hk83 _ (jbd rfl (by omega)) (And.intro rfl (And.intro rfl (And.intro rfl (And.intro rfl (And.intro rfl (And.intro rfl trivial)))))))
       ·refine rl_gskip rfl rfl rfl rfl rfl rfl <| rl_gskip rfl rfl rfl rfl rfl rfl <| rl_v rfl rfl rfl (ov_pick_f rfl rfl rfl) ?_
        refine rl_nil (hk83 _ (jbf rfl (by omega)) (And.intro rfl (And.intro rfl (And.intro rfl (And.intro rfl (And.intro rfl (And.intro rfl trivial)))))))
      ·show Run _ _ _ _ [(185, _), (2, _), (7, _), (9, _), (12, _), (18, _), (23, _)] _ _
       first | refine run_cond_dec rfl (fun q => ?_) (fun qn => ?_) | refine run_cond rfl (fun q => ?_) (fun qn => ?_)
       ·have hGX := hB.well.yes.good
        have hbg := bag_phi X
        have hOc := hW.own
        refine run_skip <| run_seq <| run_block <| run_seq <| run_region <| rl_v rfl rfl rfl (ov_move rfl rfl) ?_
        refine rl_call callable_9 rfl rfl rfl rfl rfl rfl (bag_any A X w.heap.size [] RR w w81 (by omega) hW) (fun e85 w86 hp87 => ?_)
        obtain ⟨v24, c24, rfl, hR24, hW3⟩ := hp87
        refine ⟨_, rfl, ?_⟩
        obtain ⟨a24, x24, rfl⟩ := hR24.val
        have hOd := hW3.drop.own
        refine rl_v rfl rfl rfl (ov_len rfl Try.underlying43 rfl) <| rl_v rfl rfl rfl (ov_assign rfl rfl) <| rl_nil <| run_seq <| run_region <| rl_v rfl rfl rfl (ov_move rfl rfl) <| rl_v rfl rfl rfl (ov_gtr rfl rfl rfl) <| rl_nil ?_
        first | refine run_cond_dec rfl (fun hpos => ?_) (fun hpos => ?_) | refine run_cond rfl (fun hpos => ?_) (fun hpos => ?_)
        ·have hrr := rem_rng (b := X.bag.length) (U k) (by omega) (by omega)
         refine run_region <| rl_v rfl rfl rfl (ov_move rfl rfl) <| rl_v rfl rfl rfl (ov_move rfl rfl) <| rl_v rfl rfl rfl (ov_move rfl rfl) <| rl_v rfl rfl rfl (ov_index1 rfl Try.underlying24 (by kernel_rfl) rfl rfl ⟨by omega, by omega⟩ (by exact (hqa (by omega)))) ?_
         refine rl_v rfl rfl rfl (ov_load rfl Try.underlying3 rfl rfl (by exact hqr _ hOd.below k (by omega) (by omega))) ?_
         refine rl_v rfl rfl rfl (ov_conv rfl Try.underlying3 Try.underlying46 rfl) <| rl_v rfl rfl rfl (ov_move rfl rfl) <| rl_v rfl rfl rfl (ov_conv rfl Try.underlying3 Try.underlying46 rfl) <| rl_v rfl rfl rfl (ov_rem rfl rfl rfl (wrap_u64_nonneg _) (rem_ne (by omega) (by omega))) ?_
         refine rl_v rfl rfl rfl (ov_conv rfl Try.underlying46 Try.underlying3 rfl) ?_
         refine rl_call callable_10 rfl rfl rfl rfl rfl rfl (deliver_any A X (IntKind.i64.wrap (IntKind.u64.wrap (U k) % IntKind.u64.wrap X.bag.length)) w.heap.size [] RR w w86 hrr hGX (by omega) hW3.drop) (fun e88 w89 hp90 => ?_)
         obtain ⟨rfl, hW4⟩ := hp90
         refine ⟨_, rfl, ?_⟩
         have hpd := phi_deliver hGX (i := (IntKind.i64.wrap (IntKind.u64.wrap (U k) % IntKind.u64.wrap X.bag.length)).toNat) (by omega)
         refine rl_nil <| run_inBlock <| run_region <| rl_v rfl rfl rfl (ov_move rfl rfl) <| rl_v rfl rfl rfl (ov_add rfl rfl rfl (by omega)) ?_
         refine rl_v rfl rfl rfl (ov_assign rfl rfl) <| rl_nil ?_
         refine Run.use (ih82 (k + 1) (X.deliver (IntKind.i64.wrap (IntKind.u64.wrap (U k) % IntKind.u64.wrap X.bag.length)).toNat) _ ?_ ?_) (And.intro (by exact slot_int rfl (by first | omega)) (And.intro rfl (And.intro rfl (And.intro rfl (And.intro rfl (And.intro rfl trivial))))))
         ·first | omega | (dsimp only; omega)
         ·exact ⟨by omega, hB.deliver (by omega), by omega, hW4⟩
        ·refine run_skip <| run_inBlock <| run_region <| rl_v rfl rfl rfl (ov_move rfl rfl) <| rl_v rfl rfl rfl (ov_add rfl rfl rfl (by omega)) ?_
         refine rl_v rfl rfl rfl (ov_assign rfl rfl) <| rl_nil ?_
         refine Run.use (ih82 (k + 1) (X) _ ?_ ?_) (And.intro (by exact slot_int rfl (by first | omega)) (And.intro rfl (And.intro rfl (And.intro rfl (And.intro rfl (And.intro rfl trivial))))))
         ·first | omega | (dsimp only; omega)
         ·exact ⟨by omega, hB, hph, hW3.drop⟩
       ·have hG := hB.well.yes.good
        have hOe := hW.own
        refine run_exit rfl <| run_seq <| run_seq <| run_region <| rl_v rfl rfl rfl (ov_move rfl rfl) ?_
        refine rl_call callable_11 rfl rfl rfl rfl rfl rfl (heal_any A X 11 w.heap.size [] RR w w81 (by decide) hG (by omega) hW) (fun e91 w92 hp93 => ?_)
        obtain ⟨rfl, hW5⟩ := hp93
        refine ⟨_, rfl, ?_⟩
        have hOf := hW5.own
        refine rl_v rfl rfl rfl (ov_move rfl rfl) <| rl_v rfl rfl rfl (ov_extract rfl rfl (by rfl)) ?_
        refine rl_v rfl rfl rfl (ov_extract rfl rfl (by rfl)) ?_
        refine rl_v rfl rfl rfl (ov_assign rfl rfl) <| rl_v rfl rfl rfl (ov_assign rfl rfl) <| rl_nil <| run_seq <| run_region <| rl_v rfl rfl rfl (ov_move rfl rfl) <| rl_v rfl rfl rfl (ov_neq rfl rfl rfl) <| rl_nil ?_
        first | refine run_cond_dec rfl (fun bad => ?_) (fun bad => ?_) | refine run_cond rfl (fun bad => ?_) (fun bad => ?_)
        ·exfalso; exact bad rfl
        ·have hpaid : ∀ i : Int, 0 ≤ i → i < n → (X.heal (11 : Int).toNat).bal 1 i = f1.getD i.toNat 0 + ps n D i := fun i i0 i1 => hB.paid (ps_sum n D) hK (by decide) (q := 11) (by decide) i0 i1
         have hGY := hG.heal (11 : Int).toNat
         have hl27 : n = ((X.heal (11 : Int).toNat).fst 1).length := by
          have h1 := hGY.fl 1 (.inl rfl)
          have h2 : (X.heal (11 : Int).toNat).mem = n := (cfg_mem (cfg_heal X (11 : Int).toNat)).trans (congrArg (fun c => c.1) hB.cf)
          omega
         refine run_skip <| run_seq <| run_region <| rl_v rfl rfl rfl (ov_move rfl rfl) ?_
         refine rl_call callable_12 rfl rfl rfl rfl rfl rfl (balances_any A (X.heal (11 : Int).toNat) 1 w.heap.size [] RR w w92 (.inl rfl) hGY hW5) (fun e94 w95 hp96 => ?_)
         obtain ⟨v27, c27, rfl, hR27, hW6⟩ := hp96
         refine ⟨_, rfl, ?_⟩
         generalize ((X.heal (11 : Int).toNat).fst 1).length = n27 at hl27 hR27
         subst hl27
         obtain ⟨a27, x27, rfl⟩ := hR27.val
         have hOg := hW6.own
         refine rl_v rfl rfl rfl (ov_move rfl rfl) <| rl_v rfl rfl rfl (ov_extract rfl rfl (by rfl)) ?_
         refine rl_v rfl rfl rfl (ov_extract rfl rfl (by rfl)) ?_
         refine rl_v rfl rfl rfl (ov_assign rfl rfl) <| rl_v rfl rfl rfl (ov_assign rfl rfl) <| rl_nil <| run_seq <| run_seq <| run_region <| rl_v rfl rfl rfl (ov_move rfl rfl) <| rl_v rfl rfl rfl (ov_neq rfl rfl rfl) <| rl_v rfl rfl rfl (ov_move rfl rfl) ?_
         first | refine rl_noD 218 rfl (fun h => h rfl) ?_ | refine rl_no 218 rfl (fun h => h rfl) ?_
         refine rl_gv rfl rfl rfl rfl rfl (ov_move rfl rfl) <| rl_gv rfl rfl rfl rfl rfl (ov_len rfl Try.underlying23 rfl) <| rl_gv rfl rfl rfl rfl rfl (ov_move rfl rfl) <| rl_gv rfl rfl rfl rfl rfl (ov_neq rfl rfl rfl) <| rl_v rfl rfl rfl (ov_pick_f rfl rfl rfl) <| rl_nil ?_
         first | refine run_cond_dec rfl (fun bad => ?_) (fun bad => ?_) | refine run_cond rfl (fun bad => ?_) (fun bad => ?_)
         ·exfalso; exact bad rfl
         ·refine run_skip <| run_seq <| run_seq <| run_region <| rl_v rfl rfl rfl (ov_assign rfl rfl) <| rl_nil <| run_block <| Run.keep [7, 9, 12, 27, 29] (F' := [(7, _), (9, _), (12, _), (27, _), (29, _)]) rfl <| run_loop1 (fun (k : Int) => [(29, .int .i64 k)]) [7, 9, 12, 27] (fun (k : Int) (w97 : World) => (0 ≤ k ∧ k ≤ n) ∧ Own w.heap.size w w97 (c27 :: RR)) (fun (k : Int) => ((n : Int) - k).toNat) (0) ?_ (And.intro (by exact slot_int rfl (by first | omega)) (And.intro rfl (And.intro rfl (And.intro rfl (And.intro rfl trivial))))) ?_
          ·exact ⟨by omega, hOg⟩
          intro k w97 hIw97 ih98
          obtain ⟨hk, hO10⟩ := hIw97
          show Run _ _ _ _ [(29, _), (7, _), (9, _), (12, _), (27, _)] _ _
          refine run_seq <| run_seq <| run_region <| rl_v rfl rfl rfl (ov_move rfl rfl) <| rl_v rfl rfl rfl (ov_move rfl rfl) <| rl_v rfl rfl rfl (ov_lss rfl rfl rfl) <| rl_nil ?_
          first | refine run_cond_dec rfl (fun hkn => ?_) (fun hkn => ?_) | refine run_cond rfl (fun hkn => ?_) (fun hkn => ?_)
          ·have hpk := hpaid k (by omega) (by omega)
           have hmk : f1.getD k.toNat 0 = mnyP n M D G k := hf1 k (by omega) (by omega)
           rw [hmk] at hpk
           have hr1 := mnyP_rng (n := n) (M := M) (G := G) hv k
           have hr2 := ps_rng hv k
           obtain ⟨b27, ha27, hr27⟩ := hR27.openS hO10 0 rfl
           obtain ⟨b16, ha16, hr16⟩ := hrm.openS hO10 1 k0
           refine run_skip <| run_seq <| run_block <| run_seq <| run_quiet mixed (by kernel_rfl) ?_
           refine rq_v rfl rfl rfl (fun _ => ov_move rfl rfl) ?_
           refine rq_v rfl rfl rfl (fun _ => ov_move rfl rfl) ?_
           refine rq_v rfl rfl rfl (fun _ => ov_index1 rfl Try.underlying23 (by kernel_rfl) rfl rfl ⟨by omega, by omega⟩ (by exact (ha27 (by omega)))) ?_
           refine rq_v rfl rfl rfl (fun _ => ov_load rfl Try.underlying2 rfl rfl (by show World.cell? w97 _ = _; first | exact hr27 k (by omega) (by omega))) ?_
           refine rq_v rfl rfl rfl (fun _ => ov_fieldS rfl Try.underlying26 rfl (fo := 2) rfl (by kernel_rfl) rfl) ?_
           refine rq_v rfl rfl rfl (fun _ => ov_load rfl Try.underlying23 rfl rfl (by show World.cell? w97 _ = _; first | exact hO10.cellL 4 k3 (off := 2) rfl)) ?_
           refine rq_v rfl rfl rfl (fun _ => ov_move rfl rfl) ?_
           refine rq_v rfl rfl rfl (fun _ => ov_index1 rfl Try.underlying23 (by kernel_rfl) rfl rfl ⟨by omega, by omega⟩ (by exact (ha16 (by omega)))) ?_
           refine rq_v rfl rfl rfl (fun _ => ov_load rfl Try.underlying2 rfl rfl (by show World.cell? w97 _ = _; first | exact hr16 k (by omega) (by omega))) ?_
           refine rq_v rfl rfl rfl (fun _ => ov_move rfl rfl) ?_
           refine rq_v rfl rfl rfl (fun _ => ov_move rfl rfl) ?_
           refine rq_v rfl rfl rfl (fun _ => ov_index1 rfl Try.underlying23 (by kernel_rfl) rfl rfl ⟨by omega, by omega⟩ (by rfl)) ?_
           refine rq_v rfl rfl rfl (fun _ => ov_load rfl Try.underlying2 rfl rfl (by show World.cell? w97 _ = _; first | exact hO10.cellI 3 k2 k (by omega) (by omega))) ?_
           refine rq_v rfl rfl rfl (fun _ => ov_add rfl rfl rfl (by omega)) ?_
           refine rq_v rfl rfl rfl (fun _ => ov_neq rfl rfl rfl) ?_
           refine rq_nil (fun n99 => ?_)
           have hO101 := hO10.drewN n99
           generalize World.drewN w97 n99 = w100 at hO101 ⊢
           first | refine run_cond_dec rfl (fun bad => ?_) (fun bad => ?_) | refine run_cond rfl (fun bad => ?_) (fun bad => ?_)
           ·exfalso; exact bad hpk
           ·refine run_skip <| run_inBlock <| run_region <| rl_v rfl rfl rfl (ov_move rfl rfl) <| rl_v rfl rfl rfl (ov_add rfl rfl rfl (by omega)) ?_
            refine rl_v rfl rfl rfl (ov_assign rfl rfl) <| rl_nil ?_
            refine Run.use (ih98 (k + 1) _ ?_ ?_) (And.intro (by exact slot_int rfl (by first | omega)) (And.intro rfl (And.intro rfl (And.intro rfl (And.intro rfl trivial)))))
            ·first | omega | (dsimp only; omega)
            ·exact ⟨by omega, hO101⟩
          ·refine run_exit rfl <| run_seq <| run_region ?_
           refine rl_call callable_13 rfl rfl rfl rfl rfl rfl (nine_any w.heap.size _ w w97 hO10) (fun e102 w103 hp104 => ?_)
           obtain ⟨rfl, hOn⟩ := hp104
           refine ⟨_, rfl, ?_⟩
           refine rl_v rfl rfl rfl (ov_assign rfl rfl) <| rl_nil <| run_ret Try.func3 (res1 Try.results3 rfl) ?_
           exact ⟨rfl, hOn.below⟩
end Go.Proofs.Ytijffdhailddoaa
