import Derived.Test.YtbcjfjldmfljgaaGreatPrO
import Derived.Test.YtbcjfjldmfljgaaGreatTuB
set_option maxRecDepth 100000
namespace Go.Proofs.YtbcjfjldmfljgaaGreat
open Go.RowKit Go.Proofs Go.MapKept Hal
theorem u64_nnP (x : Int) : 0 ≤ IntKind.u64.wrap x := by rw [IntKind.wrap_u64]; exact Int.emod_nonneg _ (by decide)
theorem smallP_any (x : Int) (w : World) : Calls Tryz.prog 4 #[iv x, iv 500] w fun e w' => e = .returned (iv (x % 18446744073709551616 % 501)) ∧ Own w.heap.size w w' [] := by
 refine calls_of_run (F := [(0, _), (1, _)]) Tryz.func4 rfl Tryz.ntmps4 rfl rfl ?_
 have hO0 := Own.init w
 refine run_seq <| run_region <| rl_v rfl rfl rfl (ov_assign rfl rfl) <| rl_nil <| run_seq <| run_region <| rl_v rfl rfl rfl (ov_move rfl rfl) <| rl_v rfl rfl rfl (ov_conv rfl Tryz.underlying2 Tryz.underlying42 rfl) <| rl_v rfl rfl rfl (ov_move rfl rfl) <| rl_v rfl rfl rfl (ov_add rfl rfl rfl (by omega)) ?_
 refine rl_v rfl rfl rfl (ov_convTo ((show IntKind.u64.wrap (500 + 1) = 501 by decide)) rfl Tryz.underlying2 Tryz.underlying42 rfl) ?_
 refine rl_v rfl rfl rfl (ov_rem rfl rfl rfl (u64_nnP _) (by omega)) ?_
 refine rl_v rfl rfl rfl (ov_convTo ((modsT (x := x) ⟨by decide, by decide⟩).1) rfl Tryz.underlying42 Tryz.underlying2 rfl) ?_
 refine rl_v rfl rfl rfl (ov_assign rfl rfl) <| rl_nil <| run_ret Tryz.func4 (res1 Tryz.results4 rfl) ?_
 exact ⟨rfl, hO0⟩
def bidV (l : Int → Int) (i : Int) : Int := 1 + l i % 18446744073709551616 % 501 * 8 + i
theorem bidV_rng (l : Int → Int) {i : Int} (i0 : 0 ≤ i) (i1 : i < 8) : 1 ≤ bidV l i ∧ bidV l i ≤ 5000 := by
 unfold bidV
 omega
theorem bidV_inj (l : Int → Int) {i j : Int} (i0 : 0 ≤ i) (i1 : i < 8) (j0 : 0 ≤ j) (j1 : j < 8) (e : bidV l i = bidV l j) : i = j := by
 unfold bidV at e
 omega
set_option maxHeartbeats 8000000 in
theorem topPrices_any (la : Option Addr) (lc ln : Nat) (l : Int → Int) (z : Int) (w : World) (hl : IAt w.heap.size w la ln (fun i => iv (l i))) :
  Calls Tryz.prog 3 #[.slice la ln lc, iv z] w fun e w' => e = .returned (.bool true) ∧ Below w.heap.size w w' := by
 obtain ⟨lb, lo, hla, hlr⟩ := hl.open
 obtain ⟨N, hN⟩ : ∃ N : Nat, (N : Int) = min (ln : Int) 8 := ⟨min ln 8, by omega⟩
 obtain ⟨n, hn⟩ : ∃ n : Nat, (n : Int) = 1 + z % 18446744073709551616 % 8 := ⟨(1 + z % 18446744073709551616 % 8).toNat, by omega⟩
 have hN8 : N ≤ 8 := by omega
 have hNl : N ≤ ln := by omega
 have hn8 : 1 ≤ n ∧ n ≤ 8 := by omega
 refine calls_of_run (F := [(0, _), (1, _)]) Tryz.func3 rfl Tryz.ntmps3 rfl rfl ?_
 have hO0 := Own.init w
 refine run_seq <| run_region <| rl_v rfl rfl rfl (ov_assign rfl rfl) <| rl_nil <| run_seq <| run_region <| rl_v rfl rfl rfl (ov_move rfl rfl) <| rl_v rfl rfl rfl (ov_conv rfl Tryz.underlying3 Tryz.underlying23 rfl) <| rl_v rfl rfl rfl (ov_rem rfl rfl rfl (u64_nnP _) (by omega)) ?_
 refine rl_v rfl rfl rfl (ov_convTo (((modsT (x := z) ⟨by decide, by decide⟩).1.trans (show z % 18446744073709551616 % 8 = (n : Int) - 1 by omega))) rfl Tryz.underlying23 Tryz.underlying3 rfl) ?_
 refine rl_v rfl rfl rfl (ov_add rfl rfl rfl (by omega)) ?_
 refine rl_v rfl rfl rfl (ov_assign rfl rfl) <| rl_nil <| run_seq ?_
 rw [show 1 + ((n : Int) - 1) = n by omega]
 refine run_region <| rl_v rfl rfl rfl (ov_assign rfl rfl) <| rl_nil <| run_seq <| run_region <| rl_v rfl rfl rfl (ov_assign rfl rfl) <| rl_nil <| run_seq <| run_region <| rl_v rfl rfl rfl (ov_assign rfl rfl) <| rl_nil <| run_seq <| run_seq <| run_region <| rl_v rfl rfl rfl (ov_assign rfl rfl) <| rl_nil <| run_block <| Run.keep [0, 5, 6, 7, 8, 9] (F' := [(0, _), (5, _), (6, _), (7, _), (8, _), (9, _)]) rfl <| run_loop4 (fun (i : Nat) (v6 : Value) (v7 : Value) (v8 : Value) => [(9, .int .i64 (i : Int)), (6, v6), (7, v7), (8, v8)]) [0, 5] (fun (i : Nat) (v6 : Value) (v7 : Value) (v8 : Value) (w1 : World) => i ≤ N ∧ ∃ (c6 c7 : Option Blk) (Hg : List (Option Blk)), IRow v6 2 i (fun x => iv (bidV l x)) c6 ∧ SRow v7 28 3 i (fun x => [iv 1, iv (bidV l x), iv 1]) c7 ∧ OTab v8 22 2 i (fun _ => n) (fun r _ => iv (bidV l r)) Hg ∧ Own w.heap.size w w1 (c6 :: c7 :: (Hg ++ []))) (fun (i : Nat) (v6 : Value) (v7 : Value) (v8 : Value) => N - i) (0) (.slice none 0 0) (.slice none 0 0) (.slice none 0 0) ?_ (And.intro (by exact slot_int rfl (by first | omega)) (And.intro rfl (And.intro rfl (And.intro rfl (And.intro rfl (And.intro rfl trivial)))))) ?_
 ·exact ⟨Nat.zero_le _, none, none, [none], IRow.nil _ _, SRow.nil _ _ _, OTab.nil _ _ _ _, hO0.nil_cons.nil_cons.nil_cons⟩
 intro i v6 v7 v8 w1 hIw1 ih2
 obtain ⟨hi, c6, c7, Hg, hr6, hr7, hTg, hO1⟩ := hIw1
 show Run _ _ _ _ [(9, _), (6, _), (7, _), (8, _), (0, _), (5, _)] _ _
 obtain ⟨co, rv, ch, rfl, hv, h3⟩ := hTg
 obtain ⟨a6, k6, rfl⟩ := Row.val hr6
 obtain ⟨a7, k7, rfl⟩ := Row.val hr7
 refine run_seq <| run_seq <| run_region_join 37 (.bool (decide ((i : Int) < N))) [0, 5, 6, 7, 8, 9] (fun hk3 => ?_) ?_
 ·refine rl_v rfl rfl rfl (ov_move rfl rfl) <| rl_v rfl rfl rfl (ov_move rfl rfl) <| rl_v rfl rfl rfl (ov_len rfl Tryz.underlying22 rfl) <| rl_v rfl rfl rfl (ov_lss rfl rfl rfl) <| rl_v rfl rfl rfl (ov_move rfl rfl) ?_
  first | refine rl_split_dec 34 rfl (fun hg4 => ?_) (fun hg4 => ?_) | refine rl_split 34 rfl (fun hg4 => ?_) (fun hg4 => ?_)
  ·refine rl_gv rfl rfl rfl rfl rfl (ov_move rfl rfl) <| rl_gv rfl rfl rfl rfl rfl (ov_lss rfl rfl rfl) <| rl_v rfl rfl rfl (ov_pick_t rfl rfl rfl) ?_
   refine rl_nil (hk3 _ (jbd rfl (by omega)) (And.intro rfl (And.intro rfl (And.intro rfl (And.intro rfl (And.intro rfl (And.intro rfl trivial)))))))
  ·refine rl_gskip rfl rfl rfl rfl rfl rfl <| rl_gskip rfl rfl rfl rfl rfl rfl <| rl_v rfl rfl rfl (ov_pick_f rfl rfl rfl) ?_
   refine rl_nil (hk3 _ (jbf rfl (by omega)) (And.intro rfl (And.intro rfl (And.intro rfl (And.intro rfl (And.intro rfl (And.intro rfl trivial)))))))
 ·show Run _ _ _ _ [(37, _), (0, _), (5, _), (6, _), (7, _), (8, _), (9, _)] _ _
  first | refine run_cond_dec rfl (fun c1 => ?_) (fun c1 => ?_) | refine run_cond rfl (fun c1 => ?_) (fun c1 => ?_)
  ·have hin : (i : Int) < ln := by omega
   have hbv := bidV_rng l (i := i) (by omega) (by omega)
   obtain ⟨s, hs⟩ : ∃ s : Int, s = l i % 18446744073709551616 % 501 := ⟨_, rfl⟩
   have hbe : bidV l i = 1 + s * 8 + i := by rw [hs]; rfl
   refine run_skip <| run_seq <| run_block <| run_seq <| run_region <| rl_v rfl rfl rfl (ov_move rfl rfl) <| rl_v rfl rfl rfl (ov_move rfl rfl) <| rl_v rfl rfl rfl (ov_index1 rfl Tryz.underlying22 (by kernel_rfl) rfl rfl ⟨by omega, by omega⟩ (by exact hla (by omega))) ?_
   refine rl_v rfl rfl rfl (ov_load rfl Tryz.underlying2 rfl rfl (by exact hlr _ hO1.below i (by omega) hin)) ?_
   refine rl_call callable_4 rfl rfl rfl rfl rfl rfl (smallP_any (l i) _) (fun e5 w6 hp7 => ?_)
   obtain ⟨rfl, hOa⟩ := hp7
   refine ⟨_, rfl, ?_⟩
   have hO8 := hO1.join hOa
   rw [← hs]
   refine rl_v rfl rfl rfl (ov_mul rfl rfl rfl (by omega)) ?_
   refine rl_v rfl rfl rfl (ov_add rfl rfl rfl (by omega)) ?_
   refine rl_v rfl rfl rfl (ov_move rfl rfl) <| rl_v rfl rfl rfl (ov_add rfl rfl rfl (by omega)) ?_
   refine rl_v rfl rfl rfl (ov_assign rfl rfl) <| rl_nil <| run_seq ?_
   rw [← hbe]
   refine run_region <| rl_v rfl rfl rfl (ov_move rfl rfl) <| rl_v rfl rfl rfl (ov_move rfl rfl) <| rl_ow rfl (ow_one rfl rfl rfl Tryz.underlying22 info_2 rfl hO8 rfl rfl) ?_
   rintro _ w9 ⟨b51, rfl, hO10, hs11⟩
   refine rl_ow rfl (ow_app1 rfl rfl rfl Tryz.underlying22 info_2 rfl hO10 0 hr6 rfl rfl rfl rfl ⟨by omega, by omega⟩) ?_
   rintro _ w12 ⟨v52, c52, rfl, hO13, hr52, hs14⟩
   refine rl_v rfl rfl rfl (ov_assign rfl rfl) <| rl_nil <| run_seq <| run_region <| rl_v rfl rfl rfl (ov_move rfl rfl) <| rl_v rfl rfl rfl (ov_move rfl rfl) <| rl_v rfl rfl rfl (ov_buildL rfl lay_28 rfl (us := [_, _, _]) rfl) <| rl_ow rfl (ow_build [_] rfl rfl rfl rfl rfl Tryz.underlying24 info_28 (by decide) hO13 rfl rfl) ?_
   rintro _ w15 ⟨b56, rfl, hO16, hs17⟩
   refine rl_ow rfl (ow_appR1 rfl rfl rfl Tryz.underlying24 info_28 rfl rfl hO16 1 hr7 rfl rfl rfl rfl rfl ⟨by omega, by omega⟩) ?_
   rintro _ w18 ⟨v57, c57, rfl, hO19, hr57, hs20⟩
   refine rl_v rfl rfl rfl (ov_assign rfl rfl) <| rl_nil <| run_seq <| run_region <| rl_v rfl rfl rfl (ov_move rfl rfl) ?_
   refine rl_make (n) rfl rfl rfl rfl Tryz.underlying22 info_2 rfl hO19 rfl rfl (by rfl) (by rfl) ⟨by omega, by omega⟩ (fun r59 w21 hO22 hs23 => ?_)
   have hr52' : IRow v52 2 (i + 1) (fun x => iv (bidV l x)) c52 := hr52.congr fun x _ _ => by unfold upd; split; (next e => rw [e]); rfl
   have hr57' : SRow v57 28 3 (i + 1) (fun x => [iv 1, iv (bidV l x), iv 1]) c57 := hr57.congr fun x _ _ => by
    by_cases e : x = (i : Int)
    ·rw [e, upd_same]
    ·rw [upd_ne _ _ e]
   refine rl_v rfl rfl rfl (ov_assign rfl rfl) <| rl_nil <| run_seq <| run_seq <| run_region <| rl_v rfl rfl rfl (ov_assign rfl rfl) <| rl_nil <| run_block <| Run.keep [0, 5, 6, 7, 8, 9, 10, 11, 12] (F' := [(0, _), (5, _), (6, _), (7, _), (8, _), (9, _), (10, _), (11, _), (12, _)]) rfl <| run_loop1 (fun (k : Nat) => [(12, .int .i64 (k : Int))]) [0, 5, 6, 7, 8, 9, 10, 11] (fun (k : Nat) (w24 : World) => k ≤ n ∧ Own w.heap.size w w24 (some (vch r59 2 n (fun x => iv (if x < (k : Int) then bidV l i else 0))) :: c52 :: c57 :: co :: ((List.range i).map ch ++ []))) (fun (k : Nat) => n - k) (0) ?_ (And.intro (by exact slot_int rfl (by first | omega)) (And.intro rfl (And.intro rfl (And.intro rfl (And.intro rfl (And.intro rfl (And.intro rfl (And.intro rfl (And.intro rfl trivial))))))))) ?_
   ·exact ⟨Nat.zero_le _, hO22.congrI 0 rfl fun x x0 x1 => by rw [if_neg (by omega)]⟩
   intro k w24 hIw24 ih25
   obtain ⟨hk, hO2⟩ := hIw24
   show Run _ _ _ _ [(12, _), (0, _), (5, _), (6, _), (7, _), (8, _), (9, _), (10, _), (11, _)] _ _
   refine run_seq <| run_seq <| run_region <| rl_v rfl rfl rfl (ov_move rfl rfl) <| rl_v rfl rfl rfl (ov_move rfl rfl) <| rl_v rfl rfl rfl (ov_lss rfl rfl rfl) <| rl_nil ?_
   first | refine run_cond_dec rfl (fun c2 => ?_) (fun c2 => ?_) | refine run_cond rfl (fun c2 => ?_) (fun c2 => ?_)
   ·refine run_skip <| run_seq <| run_block <| run_region <| rl_v rfl rfl rfl (ov_move rfl rfl) <| rl_v rfl rfl rfl (ov_move rfl rfl) <| rl_v rfl rfl rfl (ov_move rfl rfl) <| rl_v rfl rfl rfl (ov_index1 rfl Tryz.underlying22 (by kernel_rfl) rfl rfl ⟨by omega, by omega⟩ (by rfl)) ?_
    refine rl_ow rfl (ow_store rfl rfl (by kernel_rfl) hO2 0 rfl rfl ⟨by omega, by omega⟩ rfl rfl) ?_
    rintro _ w26 ⟨rfl, hO27, hs28⟩
    have hOs := hO27.congrI 0 rfl (G' := fun x => iv (if x < ((k + 1 : Nat) : Int) then bidV l i else 0)) (fun x _ _ => by
     by_cases e : x = (k : Int)
     ·rw [e, upd_same, if_pos (by omega)]
     ·rw [upd_ne _ _ e]
      by_cases e2 : x < (k : Int)
      ·rw [if_pos e2, if_pos (by omega)]
      ·rw [if_neg e2, if_neg (by omega)])
    refine rl_nil <| run_inBlock <| run_region <| rl_v rfl rfl rfl (ov_move rfl rfl) <| rl_v rfl rfl rfl (ov_add rfl rfl rfl (by omega)) ?_
    refine rl_v rfl rfl rfl (ov_assign rfl rfl) <| rl_nil ?_
    refine Run.use (ih25 (k + 1) _ ?_ ?_) (And.intro (by exact slot_int rfl (by first | omega)) (And.intro rfl (And.intro rfl (And.intro rfl (And.intro rfl (And.intro rfl (And.intro rfl (And.intro rfl (And.intro rfl trivial)))))))))
    ·first | omega | (dsimp only; omega)
    ·exact ⟨by omega, hOs⟩
   ·have hkn : (k : Int) = n := by omega
    refine run_exit rfl <| run_region <| rl_v rfl rfl rfl (ov_move rfl rfl) <| rl_v rfl rfl rfl (ov_move rfl rfl) <| rl_ow rfl (ow_one rfl rfl rfl Tryz.underlying25 info_22 rfl hO2 rfl rfl) ?_
    rintro _ w29 ⟨b71, rfl, hO30, hs31⟩
    refine rl_ow rfl (ow_app1 rfl rfl rfl Tryz.underlying25 info_22 rfl hO30 3 hv rfl rfl rfl rfl ⟨by omega, by omega⟩) ?_
    rintro _ w32 ⟨v72, c72, rfl, hO33, hv72, hs34⟩
    have hOp := hO33.perm (.cons _ ((List.perm_append_comm (l₁ := [c52, c57]) (l₂ := c72 :: ((List.range i).map ch ++ [])))))
    have hOq : Own w.heap.size w w32 (some (vch r59 2 n (fun x => iv (if x < (k : Int) then bidV l i else 0))) :: c72 :: ((List.range i).map ch ++ [c52, c57])) := by
     have h9 := hOp
     rw [List.append_nil] at h9
     exact h9
    have hr9 : IRow (.slice (some ⟨r59, 0, none⟩) n n) 2 n (fun _ => iv (bidV l i)) (some (vch r59 2 n (fun x => iv (if x < (k : Int) then bidV l i else 0)))) := IRow.ofV (Nat.le_refl _) (by unfold maxLen; omega) (fun x _ x1 => by rw [if_pos (by omega)])
    obtain ⟨H2, hT2, hO3⟩ := OTab.snoc (L := fun _ => n) (F := fun r _ => iv (bidV l r)) (H0 := [c52, c57]) (fun r hr => h3 r hr) hr9 hv72 hOq rfl (fun _ _ _ => rfl)
    have hO4 : Own w.heap.size w w32 (c52 :: c57 :: (H2 ++ [])) := by
     rw [List.append_nil]
     exact hO3.perm List.perm_append_comm
    refine rl_v rfl rfl rfl (ov_assign rfl rfl) <| rl_nil <| run_inBlock <| run_region <| rl_v rfl rfl rfl (ov_move rfl rfl) <| rl_v rfl rfl rfl (ov_add rfl rfl rfl (by omega)) ?_
    refine rl_v rfl rfl rfl (ov_assign rfl rfl) <| rl_nil ?_
    refine Run.use (ih2 (i + 1) (v52) (v57) (v72) _ ?_ ?_) (And.intro (by exact slot_int rfl (by first | omega)) (And.intro rfl (And.intro rfl (And.intro rfl (And.intro rfl (And.intro rfl trivial))))))
    ·first | omega | (dsimp only; omega)
    ·exact ⟨by omega, c52, c57, H2, hr52', hr57', hT2, hO4⟩
  ·have hiN : i = N := by omega
   subst hiN
   have hTg : OTab v8 22 2 i (fun _ => n) (fun r _ => iv (bidV l r)) (co :: (List.range i).map ch) := ⟨co, rv, ch, rfl, hv, h3⟩
   obtain ⟨a8, k8, rfl⟩ := hTg.val
   have hvr : ∀ x : Int, 0 ≤ x → x < i → 1 ≤ bidV l x ∧ bidV l x ≤ 5000 := fun x x0 x1 => bidV_rng l x0 (by omega)
   have hdi : ∀ x y : Int, 0 ≤ x → x < i → 0 ≤ y → y < i → bidV l x = bidV l y → x = y := fun x y x0 x1 y0 y1 e => bidV_inj l x0 (by omega) y0 (by omega) e
   refine run_exit rfl <| run_seq <| run_seq <| run_region <| rl_v rfl rfl rfl (ov_move rfl rfl) <| rl_v rfl rfl rfl (ov_len rfl Tryz.underlying22 rfl) <| rl_v rfl rfl rfl (ov_eql rfl rfl rfl) <| rl_nil ?_
   first | refine run_cond_dec rfl (fun c3 => ?_) (fun c3 => ?_) | refine run_cond rfl (fun c3 => ?_) (fun c3 => ?_)
   ·refine run_seq <| run_region ?_
    refine rl_call callable_5 rfl rfl rfl rfl rfl rfl (four_any _) (fun e35 w36 hp37 => ?_)
    obtain ⟨rfl, hOb⟩ := hp37
    refine ⟨_, rfl, ?_⟩
    have hO38 := hO1.join hOb
    refine rl_v rfl rfl rfl (ov_assign rfl rfl) <| rl_nil <| run_ret Tryz.func3 (res1 Tryz.results3 rfl) ?_
    exact ⟨rfl, hO38.below⟩
   ·have h1 : 1 ≤ i := by omega
    refine run_skip <| run_seq <| run_region <| rl_v rfl rfl rfl (ov_move rfl rfl) <| rl_v rfl rfl rfl (ov_move rfl rfl) <| rl_v rfl rfl rfl (ov_buildL rfl lay_28 rfl (us := [_, _, _]) rfl) <| rl_ow rfl (ow_build [_] rfl rfl rfl rfl rfl Tryz.underlying24 info_28 (by decide) hO1 rfl rfl) ?_
    rintro _ w39 ⟨b80, rfl, hO40, hs41⟩
    refine rl_ow rfl (ow_appR1 rfl rfl rfl Tryz.underlying24 info_28 rfl rfl hO40 1 hr7 rfl rfl rfl rfl rfl ⟨by omega, by omega⟩) ?_
    rintro _ w42 ⟨v81, c81, rfl, hO43, hr81, hs44⟩
    have hr82 : SRow v81 28 3 (i + 1) (bdF i n (bidV l)) c81 := hr81.congr fun x x0 x1 => by
     unfold bdF mkS mkP mkQ
     by_cases e : x = (i : Int)
     ·rw [e, upd_same, if_neg (by omega), if_neg (by omega), if_neg (by omega)]
     ·rw [upd_ne _ _ e, if_pos (by omega), if_pos (by omega), if_pos (by omega)]
    obtain ⟨a81, k81, rfl⟩ := Row.val hr82
    refine rl_v rfl rfl rfl (ov_assign rfl rfl) <| rl_nil <| run_seq <| run_region <| rl_v rfl rfl rfl (ov_move rfl rfl) <| rl_v rfl rfl rfl (ov_move rfl rfl) ?_
    refine rl_call callable_6 rfl rfl rfl rfl rfl rfl (uniform_any a6 k6 i n (bidV l) _ ⟨h1, hN8⟩ hn8 (fun x x0 x1 => by have := hvr x x0 x1; omega) hdi (hr6.reads hO43 0 rfl)) (fun e45 w46 hp47 => ?_)
    obtain ⟨Z, I, wa, m, mc, cI, rfl, hB, hm, hI, hmem, hrI, hOu⟩ := hp47
    refine ⟨_, rfl, ?_⟩
    have hO48 := hO43.join hOu
    have hpb : 0 ≤ pri i n (bidV l) Z ∧ pri i n (bidV l) Z ≤ 5000 := ⟨hB.pos, by
     unfold pri
     split
     ·have h9 := hB.rng n (by omega) (by omega)
      exact (hvr _ h9.1 h9.2).2
     ·decide⟩
    refine rl_v rfl rfl rfl (ov_move rfl rfl) <| rl_v rfl rfl rfl (ov_extract rfl rfl (by rfl)) ?_
    refine rl_v rfl rfl rfl (ov_extract rfl rfl (by rfl)) ?_
    refine rl_v rfl rfl rfl (ov_extract rfl rfl (by rfl)) ?_
    refine rl_v rfl rfl rfl (ov_assign rfl rfl) <| rl_v rfl rfl rfl (ov_assign rfl rfl) <| rl_v rfl rfl rfl (ov_assign rfl rfl) <| rl_nil <| run_seq <| run_region <| rl_v rfl rfl rfl (ov_move rfl rfl) ?_
    refine rl_call callable_7 rfl rfl rfl rfl rfl rfl (clear_any a81 k81 i n (bidV l) Z _ ⟨h1, hN8⟩ hn8 hB (fun x x0 x1 => by have := hvr x x0 x1; omega) (hr82.reads hO48 2 rfl)) (fun e49 w50 hp51 => ?_)
    obtain ⟨V9, S9, fb, Fo, rfl, hFo, hOc⟩ := hp51
    refine ⟨_, rfl, ?_⟩
    have hO52 := hO48.join hOc
    refine rl_v rfl rfl rfl (ov_move rfl rfl) <| rl_v rfl rfl rfl (ov_extract rfl rfl (by rfl)) ?_
    refine rl_v rfl rfl rfl (ov_extract rfl rfl (by rfl)) ?_
    refine rl_ow rfl (ow_alloc _ rfl rfl rfl zero_35 rfl hO52) ?_
    rintro _ w53 ⟨b16, rfl, hO54, hs55⟩
    refine rl_ow rfl (ow_storeW rfl rfl (by kernel_rfl) hO54 0 rfl rfl (by rfl) rfl (by rfl)) ?_
    rintro _ w56 ⟨rfl, hO57, hs58⟩
    have hK : KeepJ (same i n (bidV l)) fun p => ∀ j : Int, 0 ≤ j → j < n → p j ≤ pri i n (bidV l) Z := fun p _ hJ _ _ _ _ _ hC ⟨_, hG⟩ hS => same_step hB hJ hC hG hS
    refine rl_v rfl rfl rfl (ov_assign rfl rfl) <| rl_nil <| run_seq <| run_region <| rl_v rfl rfl rfl (ov_move rfl rfl) ?_
    refine rl_call callable_8 rfl rfl rfl rfl rfl rfl (hallH_any a8 k8 (same i n (bidV l)) (fun p => ∀ j : Int, 0 ≤ j → j < n → p j ≤ pri i n (bidV l) Z) hK (fun j _ _ => hB.pos) _ ⟨⟨h1, (by show i ≤ 64; omega)⟩, ⟨hn8.1, (by show n ≤ 64; omega)⟩, fun x j x0 x1 _ _ => (by have := hvr x x0 x1; show 0 ≤ bidV l x ∧ bidV l x ≤ 1000000000; omega), hTg.reads (hO57.sub (.cons _ (.cons _ (.cons _ (.cons _ (.cons _ (List.Sublist.refl _)))))))⟩) (fun e59 w60 hp61 => ?_)
    obtain ⟨v18, pb, a, p, c18, rfl, hv18, hOh, hp, hBl, hNc, hJp⟩ := hp61
    refine ⟨_, rfl, ?_⟩
    have hO62 := hO57.join hOh
    obtain ⟨a18, k18, rfl⟩ := Row.val hv18
    have hpp : ∀ j : Int, 0 ≤ j → j < n → p j = pri i n (bidV l) Z := same_price hB hJp (fun j j0 j1 => (hp j j0 j1).1) hNc
    have hah : ∀ x : Int, 0 ≤ x → x < i → (0 ≤ a x ↔ pri i n (bidV l) Z < bidV l x) := fun x x0 x1 => same_housed hB hn8.1 hpp hBl x0 x1
    have hnb : (same i n (bidV l)).nb = i := rfl
    have hOA := hO62
    have hIp : IAt w60.heap.size w60 (some ⟨pb, 0, none⟩) n (fun j => iv (p j)) := hOA.readsI 1 rfl
    have hIf : IAt w60.heap.size w60 (some ⟨fb, 0, none⟩) (i + 1) (fun j => iv (Fo j)) := hOA.readsI 3 rfl
    have hIa : IAt w60.heap.size w60 a18 i (fun y => iv (a y)) := hv18.reads hOA 0 rfl
    have hIw : IAt w60.heap.size w60 wa m (fun y => iv (I y)) := hrI.reads hOA 4 rfl
    have hb16 := hOA.cellOld 2 rfl (off := 3) rfl
    obtain ⟨pb2, po2, hpa, hpr⟩ := hIp.open
    obtain ⟨fb2, fo2, hfa, hfr⟩ := hIf.open
    obtain ⟨ab2, ao2, haa, har⟩ := hIa.open
    cases hpa (by omega)
    cases hfa (by omega)
    have hI0 := Own.init w60
    refine rl_v rfl rfl rfl (ov_move rfl rfl) <| rl_v rfl rfl rfl (ov_extract rfl rfl (by rfl)) ?_
    refine rl_v rfl rfl rfl (ov_extract rfl rfl (by rfl)) ?_
    refine rl_v rfl rfl rfl (ov_extract rfl rfl (by rfl)) ?_
    refine rl_v rfl rfl rfl (ov_assign rfl rfl) <| rl_v rfl rfl rfl (ov_assign rfl rfl) <| rl_v rfl rfl rfl (ov_assign rfl rfl) <| rl_nil <| run_seq <| run_seq <| run_region <| rl_v rfl rfl rfl (ov_move rfl rfl) <| rl_v rfl rfl rfl (ov_neq rfl rfl rfl) <| rl_v rfl rfl rfl (ov_move rfl rfl) ?_
    first | refine rl_noD 102 rfl ((fun h => h rfl)) ?_ | refine rl_no 102 rfl ((fun h => h rfl)) ?_
    refine rl_gv rfl rfl rfl rfl rfl (ov_move rfl rfl) <| rl_gv rfl rfl rfl rfl rfl (ov_neq rfl rfl rfl) <| rl_v rfl rfl rfl (ov_pick_f rfl rfl rfl) <| rl_v rfl rfl rfl (ov_move rfl rfl) ?_
    first | refine rl_noD 106 rfl ((fun h => h rfl)) ?_ | refine rl_no 106 rfl ((fun h => h rfl)) ?_
    refine rl_gv rfl rfl rfl rfl rfl (ov_move rfl rfl) <| rl_gv rfl rfl rfl rfl rfl (ov_neq rfl rfl rfl) <| rl_v rfl rfl rfl (ov_pick_f rfl rfl rfl) <| rl_v rfl rfl rfl (ov_move rfl rfl) ?_
    first | refine rl_noD 110 rfl ((fun h => h rfl)) ?_ | refine rl_no 110 rfl ((fun h => h rfl)) ?_
    refine rl_gv rfl rfl rfl rfl rfl (ov_fieldS rfl Tryz.underlying35 rfl (fo := 0) rfl (by kernel_rfl) rfl) ?_
    refine rl_gv rfl rfl rfl rfl rfl (ov_load rfl Tryz.underlying2 rfl rfl (by exact hOA.cellL 2 rfl (off := 0) rfl)) ?_
    refine rl_gv rfl rfl rfl rfl rfl (ov_move rfl rfl) <| rl_gv rfl rfl rfl rfl rfl (ov_add rfl rfl rfl (by omega)) ?_
    refine rl_gv rfl rfl rfl rfl rfl (ov_neq rfl rfl rfl) <| rl_v rfl rfl rfl (ov_pick_f rfl rfl rfl) <| rl_v rfl rfl rfl (ov_move rfl rfl) ?_
    first | refine rl_noD 117 rfl ((fun h => h rfl)) ?_ | refine rl_no 117 rfl ((fun h => h rfl)) ?_
    refine rl_gv rfl rfl rfl rfl rfl (ov_fieldS rfl Tryz.underlying35 rfl (fo := 3) rfl (by kernel_rfl) rfl) ?_
    refine rl_gv rfl rfl rfl rfl rfl (ov_load rfl Tryz.underlying22 rfl rfl (by exact hOA.cellL 2 rfl (off := 3) rfl)) ?_
    refine rl_gv rfl rfl rfl rfl rfl (ov_len rfl Tryz.underlying22 rfl) <| rl_gv rfl rfl rfl rfl rfl (ov_move rfl rfl) <| rl_gv rfl rfl rfl rfl rfl (ov_len rfl Tryz.underlying24 rfl) <| rl_gv rfl rfl rfl rfl rfl (ov_neq rfl rfl rfl) <| rl_v rfl rfl rfl (ov_pick_f rfl rfl rfl) <| rl_v rfl rfl rfl (ov_move rfl rfl) ?_
    first | refine rl_noD 125 rfl ((fun h => h rfl)) ?_ | refine rl_no 125 rfl ((fun h => h rfl)) ?_
    refine rl_gv rfl rfl rfl rfl rfl (ov_move rfl rfl) <| rl_gv rfl rfl rfl rfl rfl (ov_len rfl Tryz.underlying30 rfl) <| rl_gv rfl rfl rfl rfl rfl (ov_move rfl rfl) <| rl_gv rfl rfl rfl rfl rfl (ov_len rfl Tryz.underlying22 rfl) <| rl_gv rfl rfl rfl rfl rfl (ov_neq rfl rfl rfl) <| rl_v rfl rfl rfl (ov_pick_f rfl rfl rfl) <| rl_v rfl rfl rfl (ov_move rfl rfl) ?_
    first | refine rl_noD 132 rfl ((fun h => h rfl)) ?_ | refine rl_no 132 rfl ((fun h => h rfl)) ?_
    refine rl_gv rfl rfl rfl rfl rfl (ov_move rfl rfl) <| rl_gv rfl rfl rfl rfl rfl (ov_len rfl Tryz.underlying22 rfl) <| rl_gv rfl rfl rfl rfl rfl (ov_move rfl rfl) <| rl_gv rfl rfl rfl rfl rfl (ov_neq rfl rfl rfl) <| rl_v rfl rfl rfl (ov_pick_f rfl rfl rfl) <| rl_nil ?_
    first | refine run_cond_dec rfl (fun c4 => ?_) (fun c4 => ?_) | refine run_cond rfl (fun c4 => ?_) (fun c4 => ?_)
    ·exfalso; (exact c4 rfl)
    ·refine run_skip <| run_seq <| run_seq <| run_region <| rl_v rfl rfl rfl (ov_assign rfl rfl) <| rl_nil <| run_block <| Run.keep [5, 6, 13, 14, 16, 18, 19, 21] (F' := [(5, _), (6, _), (13, _), (14, _), (16, _), (18, _), (19, _), (21, _)]) rfl <| run_loop1 (fun (k : Nat) => [(21, .int .i64 (k : Int))]) [5, 6, 13, 14, 16, 18, 19] (fun (k : Nat) (w63 : World) => k ≤ n ∧ Own w60.heap.size w60 w63 []) (fun (k : Nat) => n - k) (0) ?_ (And.intro (by exact slot_int rfl (by first | omega)) (And.intro rfl (And.intro rfl (And.intro rfl (And.intro rfl (And.intro rfl (And.intro rfl (And.intro rfl trivial)))))))) ?_
     ·exact ⟨Nat.zero_le _, hI0⟩
     intro k w63 hIw63 ih64
     obtain ⟨hk, hO2⟩ := hIw63
     show Run _ _ _ _ [(21, _), (5, _), (6, _), (13, _), (14, _), (16, _), (18, _), (19, _)] _ _
     refine run_seq <| run_seq <| run_region <| rl_v rfl rfl rfl (ov_move rfl rfl) <| rl_v rfl rfl rfl (ov_move rfl rfl) <| rl_v rfl rfl rfl (ov_lss rfl rfl rfl) <| rl_nil ?_
     first | refine run_cond_dec rfl (fun c5 => ?_) (fun c5 => ?_) | refine run_cond rfl (fun c5 => ?_) (fun c5 => ?_)
     ·refine run_skip <| run_seq <| run_block <| run_seq <| run_region <| rl_v rfl rfl rfl (ov_move rfl rfl) <| rl_v rfl rfl rfl (ov_move rfl rfl) <| rl_v rfl rfl rfl (ov_index1 rfl Tryz.underlying22 (by kernel_rfl) rfl rfl ⟨by omega, by omega⟩ (by rfl)) ?_
      refine rl_v rfl rfl rfl (ov_load rfl Tryz.underlying2 rfl rfl (by exact hpr _ hO2.below k (by omega) c5)) ?_
      refine rl_v rfl rfl rfl (ov_move rfl rfl) <| rl_v rfl rfl rfl (ov_neq rfl rfl rfl) <| rl_nil ?_
      first | refine run_cond_dec rfl (fun c6 => ?_) (fun c6 => ?_) | refine run_cond rfl (fun c6 => ?_) (fun c6 => ?_)
      ·exfalso; (exact c6 (hpp k (by omega) c5))
      ·refine run_skip <| run_inBlock <| run_region <| rl_v rfl rfl rfl (ov_move rfl rfl) <| rl_v rfl rfl rfl (ov_add rfl rfl rfl (by omega)) ?_
       refine rl_v rfl rfl rfl (ov_assign rfl rfl) <| rl_nil ?_
       refine Run.use (ih64 (k + 1) _ ?_ ?_) (And.intro (by exact slot_int rfl (by first | omega)) (And.intro rfl (And.intro rfl (And.intro rfl (And.intro rfl (And.intro rfl (And.intro rfl (And.intro rfl trivial))))))))
       ·first | omega | (dsimp only; omega)
       ·exact ⟨by omega, hO2⟩
     ·refine run_exit rfl <| run_seq <| run_region <| rl_v rfl rfl rfl (ov_assign rfl rfl) <| rl_v rfl rfl rfl (ov_assign rfl rfl) <| rl_nil <| run_seq <| run_seq <| run_region <| rl_v rfl rfl rfl (ov_assign rfl rfl) <| rl_nil <| run_block <| Run.keep [6, 13, 16, 18, 22, 23, 24] (F' := [(6, _), (13, _), (16, _), (18, _), (22, _), (23, _), (24, _)]) rfl <| run_loop3 (fun (x : Nat) (v22 : Value) (v23 : Value) => [(24, .int .i64 (x : Int)), (22, v22), (23, v23)]) [6, 13, 16, 18] (fun (x : Nat) (v22 : Value) (v23 : Value) (w65 : World) => x ≤ i ∧ ∃ (q : Nat) (I1 : Int → Int) (d1 : Option Blk) (r : Nat) (I2 : Int → Int) (d2 : Option Blk), Pick (fun y => pri i n (bidV l) Z < bidV l y) x q I1 ∧ IRow v22 3 q (fun y => iv (I1 y)) d1 ∧ Pick (fun y => pri i n (bidV l) Z < bidV l y) x r I2 ∧ IRow v23 3 r (fun y => iv (I2 y)) d2 ∧ Own w60.heap.size w60 w65 (d1 :: d2 :: [])) (fun (x : Nat) (v22 : Value) (v23 : Value) => i - x) (0) (.slice none 0 0) (.slice none 0 0) ?_ (And.intro (by exact slot_int rfl (by first | omega)) (And.intro rfl (And.intro rfl (And.intro rfl (And.intro rfl (And.intro rfl (And.intro rfl trivial))))))) ?_
      ·exact ⟨Nat.zero_le _, 0, fun _ => 0, none, 0, fun _ => 0, none, Pick.nil _ _, IRow.nil _ _, Pick.nil _ _, IRow.nil _ _, hO2.nil_cons.nil_cons⟩
      intro x v22 v23 w65 hIw65 ih66
      obtain ⟨hx, q, I1, d1, r, I2, d2, hP1, hr1, hP2, hr2, hO3⟩ := hIw65
      show Run _ _ _ _ [(24, _), (22, _), (23, _), (6, _), (13, _), (16, _), (18, _)] _ _
      obtain ⟨a22, k22, rfl⟩ := Row.val hr1
      obtain ⟨a23, k23, rfl⟩ := Row.val hr2
      have hle1 := hP1.le
      have hle2 := hP2.le
      refine run_seq <| run_seq <| run_region <| rl_v rfl rfl rfl (ov_move rfl rfl) <| rl_v rfl rfl rfl (ov_move rfl rfl) <| rl_v rfl rfl rfl (ov_len rfl Tryz.underlying22 rfl) <| rl_v rfl rfl rfl (ov_lss rfl rfl rfl) <| rl_nil ?_
      first | refine run_cond_dec rfl (fun c7 => ?_) (fun c7 => ?_) | refine run_cond rfl (fun c7 => ?_) (fun c7 => ?_)
      ·have c7b : (x : Int) < i := c7
       refine run_skip <| run_seq <| run_block <| run_seq <| run_seq <| run_region <| rl_v rfl rfl rfl (ov_fieldS rfl Tryz.underlying35 rfl (fo := 3) rfl (by kernel_rfl) rfl) ?_
       refine rl_v rfl rfl rfl (ov_load rfl Tryz.underlying22 rfl rfl (by exact hb16 _ hO3.below)) ?_
       refine rl_v rfl rfl rfl (ov_move rfl rfl) <| rl_v rfl rfl rfl (ov_index1 rfl Tryz.underlying22 (by kernel_rfl) rfl rfl ⟨by omega, by omega⟩ (by rfl)) ?_
       refine rl_v rfl rfl rfl (ov_load rfl Tryz.underlying2 rfl rfl (by exact hfr _ hO3.below x (by omega) (by omega))) ?_
       refine rl_v rfl rfl rfl (ov_eql rfl rfl rfl) <| rl_nil <| Run.keep [6, 13, 16, 18, 22, 23, 24, 160] (F' := [(6, _), (13, _), (16, _), (18, _), (22, _), (23, _), (24, _), (160, _)]) rfl <| run_join1 (fun (v : Value) => [(22, v)]) [6, 13, 16, 18, 23, 24] (fun (v : Value) (w67 : World) => ∃ (q2 : Nat) (I3 : Int → Int) (d3 : Option Blk), Pick (fun y => pri i n (bidV l) Z < bidV l y) (x + 1) q2 I3 ∧ IRow v 3 q2 (fun y => iv (I3 y)) d3 ∧ Own w60.heap.size w60 w67 (d3 :: d2 :: [])) (fun hk68 => ?_) ?_
       ·first | refine run_cond_dec rfl (fun c8 => ?_) (fun c8 => ?_) | refine run_cond rfl (fun c8 => ?_) (fun c8 => ?_)
        ·refine run_region <| rl_v rfl rfl rfl (ov_move rfl rfl) <| rl_v rfl rfl rfl (ov_move rfl rfl) <| rl_ow rfl (ow_one rfl rfl rfl Tryz.underlying30 info_3 rfl hO3 rfl rfl) ?_
         rintro _ w69 ⟨b163, rfl, hO70, hs71⟩
         refine rl_ow rfl (ow_app1 rfl rfl rfl Tryz.underlying30 info_3 rfl hO70 0 hr1 rfl rfl rfl rfl ⟨by omega, by omega⟩) ?_
         rintro _ w72 ⟨v164, c164, rfl, hO73, hr164, hs74⟩
         refine rl_v rfl rfl rfl (ov_assign rfl rfl) <| rl_nil ?_
         refine Run.use (hk68 (v164) _ ?_) (And.intro rfl (And.intro rfl (And.intro rfl (And.intro rfl (And.intro rfl (And.intro rfl (And.intro rfl trivial)))))))
         exact ⟨q + 1, _, c164, hP1.yes ((hFo x (by omega) c7b).1 c8), hr164.congr (fun y _ _ => by unfold upd; split <;> rfl), hO73⟩
        ·refine run_skip ?_
         refine Run.use (hk68 (.slice a22 q k22) _ ?_) (And.intro rfl (And.intro rfl (And.intro rfl (And.intro rfl (And.intro rfl (And.intro rfl (And.intro rfl trivial)))))))
         exact ⟨q, I1, d1, hP1.no (fun h => c8 ((hFo x (by omega) c7b).2 h)), hr1, hO3⟩
       ·intro v w67 hJw67
        obtain ⟨q2, I3, d3, hP3, hr3, hO4⟩ := hJw67
        show Run _ _ _ _ [(22, _), (6, _), (13, _), (16, _), (18, _), (23, _), (24, _)] _ _
        obtain ⟨a24, k24, rfl⟩ := Row.val hr3
        refine run_seq <| run_region <| rl_v rfl rfl rfl (ov_move rfl rfl) <| rl_v rfl rfl rfl (ov_move rfl rfl) <| rl_v rfl rfl rfl (ov_index1 rfl Tryz.underlying30 (by kernel_rfl) rfl rfl ⟨by omega, by omega⟩ (by exact haa (by omega))) ?_
        refine rl_v rfl rfl rfl (ov_load rfl Tryz.underlying3 rfl rfl (by exact har _ hO4.below x (by omega) c7b)) ?_
        refine rl_v rfl rfl rfl (ov_geq rfl rfl rfl) <| rl_nil ?_
        first | refine run_cond_dec rfl (fun c9 => ?_) (fun c9 => ?_) | refine run_cond rfl (fun c9 => ?_) (fun c9 => ?_)
        ·refine run_region <| rl_v rfl rfl rfl (ov_move rfl rfl) <| rl_v rfl rfl rfl (ov_move rfl rfl) <| rl_ow rfl (ow_one rfl rfl rfl Tryz.underlying30 info_3 rfl hO4 rfl rfl) ?_
         rintro _ w75 ⟨b172, rfl, hO76, hs77⟩
         refine rl_ow rfl (ow_app1 rfl rfl rfl Tryz.underlying30 info_3 rfl hO76 1 hr2 rfl rfl rfl rfl ⟨by omega, by omega⟩) ?_
         rintro _ w78 ⟨v173, c173, rfl, hO79, hr173, hs80⟩
         refine rl_v rfl rfl rfl (ov_assign rfl rfl) <| rl_nil <| run_inBlock <| run_region <| rl_v rfl rfl rfl (ov_move rfl rfl) <| rl_v rfl rfl rfl (ov_add rfl rfl rfl (by omega)) ?_
         refine rl_v rfl rfl rfl (ov_assign rfl rfl) <| rl_nil ?_
         refine Run.use (ih66 (x + 1) (.slice a24 q2 k24) (v173) _ ?_ ?_) (And.intro (by exact slot_int rfl (by first | omega)) (And.intro rfl (And.intro rfl (And.intro rfl (And.intro rfl (And.intro rfl (And.intro rfl trivial)))))))
         ·first | omega | (dsimp only; omega)
         ·exact ⟨by omega, q2, I3, d3, r + 1, _, c173, hP3, hr3, hP2.yes ((hah x (by omega) c7b).1 c9), hr173.congr (fun y _ _ => by unfold upd; split <;> rfl), hO79⟩
        ·refine run_skip <| run_inBlock <| run_region <| rl_v rfl rfl rfl (ov_move rfl rfl) <| rl_v rfl rfl rfl (ov_add rfl rfl rfl (by omega)) ?_
         refine rl_v rfl rfl rfl (ov_assign rfl rfl) <| rl_nil ?_
         refine Run.use (ih66 (x + 1) (.slice a24 q2 k24) (.slice a23 r k23) _ ?_ ?_) (And.intro (by exact slot_int rfl (by first | omega)) (And.intro rfl (And.intro rfl (And.intro rfl (And.intro rfl (And.intro rfl (And.intro rfl trivial)))))))
         ·first | omega | (dsimp only; omega)
         ·exact ⟨by omega, q2, I3, d3, r, I2, d2, hP3, hr3, hP2.no (fun h => c9 ((hah x (by omega) c7b).2 h)), hr2, hO4⟩
      ·have hxi : x = i := by omega
       subst hxi
       obtain ⟨e1, E1⟩ := rise_uniq hP1.inc hI fun y => (hP1.mem y).trans (hmem y).symm
       obtain ⟨e2, E2⟩ := rise_uniq hP2.inc hI fun y => (hP2.mem y).trans (hmem y).symm
       refine run_exit rfl <| run_seq <| run_region <| rl_v rfl rfl rfl (ov_move rfl rfl) <| rl_v rfl rfl rfl (ov_move rfl rfl) ?_
       refine rl_call callable_9 rfl rfl rfl rfl rfl rfl (tints_any a22 wa q k22 m mc I1 I _ (hr1.reads hO3 0 rfl) (hO3.iatU hIw) (by omega) e1 E1) (fun e81 w82 hp83 => ?_)
       obtain ⟨rfl, hOi⟩ := hp83
       refine ⟨_, rfl, ?_⟩
       have hO84 := hO3.join hOi
       refine rl_v rfl rfl rfl (ov_move rfl rfl) ?_
       first | refine rl_yesD 177 rfl (rfl) ?_ | refine rl_yes 177 rfl (rfl) ?_
       refine rl_gv rfl rfl rfl rfl rfl (ov_move rfl rfl) <| rl_gv rfl rfl rfl rfl rfl (ov_move rfl rfl) ?_
       refine rl_gcall callable_9 rfl rfl rfl rfl rfl rfl rfl rfl (tints_any a23 wa r k23 m mc I2 I _ (hr2.reads hO84 1 rfl) (hO84.iatU hIw) (by omega) e2 E2) (fun e85 w86 hp87 => ?_)
       obtain ⟨rfl, hOj⟩ := hp87
       refine ⟨_, rfl, ?_⟩
       have hO88 := hO84.join hOj
       refine rl_v rfl rfl rfl (ov_pick_t rfl rfl rfl) <| rl_v rfl rfl rfl (ov_move rfl rfl) ?_
       first | refine rl_yesD 182 rfl (rfl) ?_ | refine rl_yes 182 rfl (rfl) ?_
       refine rl_gcall callable_5 rfl rfl rfl rfl rfl rfl rfl rfl (four_any _) (fun e89 w90 hp91 => ?_)
       obtain ⟨rfl, hOk⟩ := hp91
       refine ⟨_, rfl, ?_⟩
       have hO92 := hO88.join hOk
       refine rl_v rfl rfl rfl (ov_pick_t rfl rfl rfl) <| rl_v rfl rfl rfl (ov_assign rfl rfl) <| rl_nil <| run_ret Tryz.func3 (res1 Tryz.results3 rfl) ?_
       exact ⟨rfl, (hOA.join hO92).below⟩
end Go.Proofs.YtbcjfjldmfljgaaGreat
