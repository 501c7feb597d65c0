import Derived.Test.YtlldeifbfpmbaaaFeF
set_option maxRecDepth 100000
namespace Go.Proofs.Ytlldeifbfpmbaaa
open Go.RowKit Go.Proofs Go.MapKept
theorem u64_nn5 (x : Int) : 0 ≤ IntKind.u64.wrap x := by rw [IntKind.wrap_u64]; omega
theorem tidy5_any (ao : Option Addr) (n c N : Nat) (X : Int → Int) (w : World) (hn : n ≤ 1000000) (hN : N ≤ 1000) (h : IAt w.heap.size w ao n (fun i => iv (X i))) :
  Calls Try.prog 18 #[.slice ao n c, iv N] w fun e w' => ∃ (v : Value) (k : Nat) (E : Int → Int) (c' : Option Blk), e = .returned v ∧ k ≤ n ∧ IsL k E N ∧ IRow v 3 k (fun i => iv (E i)) c' ∧ Own w.heap.size w w' [c'] := by
 obtain ⟨gb, go, hga, hrow⟩ := h.open
 have eN : IntKind.u64.wrap (N : Int) = N := IntWalk.u64_in _ (by omega)
 refine calls_of_run (F := [(0, _), (1, _)]) Try.func18 rfl Try.ntmps18 rfl rfl ?_
 have hO0 := Own.init w
 refine run_seq <| run_region <| rl_v rfl rfl rfl (ov_assign rfl rfl) <| rl_nil <| run_seq <| run_region <| rl_v rfl rfl rfl (ov_assign rfl rfl) <| rl_nil <| run_seq <| run_seq <| run_region <| rl_v rfl rfl rfl (ov_assign rfl rfl) <| rl_nil <| run_block <| Run.keep [0, 1, 5, 6] (F' := [(0, _), (1, _), (5, _), (6, _)]) rfl <| run_loop4 (fun (i : Int) (k : Nat) (oa : Option Addr) (oc : Nat) => [(6, .int .i64 i), (5, .slice oa k oc)]) [0, 1] (fun (i : Int) (k : Nat) (oa : Option Addr) (oc : Nat) (w1 : World) => ∃ (E : Int → Int) (c' : Option Blk), 0 ≤ i ∧ i ≤ n ∧ (k : Int) ≤ i ∧ IsL k E N ∧ IRow (.slice oa k oc) 3 k (fun i => iv (E i)) c' ∧ Own w.heap.size w w1 [c']) (fun (i : Int) (k : Nat) (oa : Option Addr) (oc : Nat) => ((n : Int) - i).toNat) (0) (0) (none) (0) ?_ (And.intro (by exact slot_int rfl (by first | omega)) (And.intro rfl (And.intro rfl (And.intro rfl trivial)))) ?_
 ·exact ⟨fun _ => 0, none, by omega, by omega, by omega, ⟨fun k k0 k1 => by omega, fun a b a0 a1 => by omega⟩, IRow.nil _ _, hO0.nil_cons⟩
 intro i k oa oc w1 hIw1 ih2
 obtain ⟨E, c', hi0, hi1, hki, hL, hr, hO⟩ := hIw1
 show Run _ _ _ _ [(6, _), (5, _), (0, _), (1, _)] _ _
 refine run_seq <| run_seq <| run_region <| rl_v rfl rfl rfl (ov_move rfl rfl) <| rl_v rfl rfl rfl (ov_move rfl rfl) <| rl_v rfl rfl rfl (ov_len rfl Try.underlying23 rfl) <| rl_v rfl rfl rfl (ov_lss rfl rfl rfl) <| rl_v rfl rfl rfl (ov_move rfl rfl) ?_
 first | refine rl_split_dec 12 rfl (fun q1 => ?_) (fun q1 => ?_) | refine rl_split 12 rfl (fun q1 => ?_) (fun q1 => ?_)
 ·refine rl_gv rfl rfl rfl rfl rfl (ov_move rfl rfl) <| rl_gv rfl rfl rfl rfl rfl (ov_gtr rfl rfl rfl) <| rl_v rfl rfl rfl (ov_pick_t rfl rfl rfl) <| rl_nil ?_
  first | refine run_cond_dec rfl (fun h2 => ?_) (fun h2 => ?_) | refine run_cond rfl (fun h2 => ?_) (fun h2 => ?_)
  ·have hx1 := u64_nn5 (X i)
   have hx2 : IntKind.u64.wrap (X i) % IntKind.u64.wrap (N : Int) < N := by rw [eN]; exact Int.emod_lt_of_pos _ (by omega)
   have hx3 : 0 ≤ IntKind.u64.wrap (X i) % IntKind.u64.wrap (N : Int) := by rw [eN]; exact Int.emod_nonneg _ (by omega)
   have hx4 : IntKind.i64.wrap (IntKind.u64.wrap (X i) % IntKind.u64.wrap (N : Int)) = IntKind.u64.wrap (X i) % IntKind.u64.wrap (N : Int) := IntWalk.i64_in _ (by omega)
   refine run_skip <| run_seq <| run_block <| run_seq <| run_region <| rl_v rfl rfl rfl (ov_move rfl rfl) <| rl_v rfl rfl rfl (ov_move rfl rfl) <| rl_v rfl rfl rfl (ov_index1 rfl Try.underlying23 (by kernel_rfl) rfl rfl ⟨by omega, by omega⟩ (by exact hga (by omega))) ?_
   refine rl_v rfl rfl rfl (ov_load rfl Try.underlying3 rfl rfl (by exact hrow _ hO.below _ (by omega) (by omega))) ?_
   refine rl_v rfl rfl rfl (ov_conv rfl Try.underlying3 Try.underlying37 rfl) <| rl_v rfl rfl rfl (ov_move rfl rfl) <| rl_v rfl rfl rfl (ov_conv rfl Try.underlying3 Try.underlying37 rfl) <| rl_v rfl rfl rfl (ov_rem rfl rfl rfl (u64_nn5 _) (by omega)) ?_
   refine rl_v rfl rfl rfl (ov_conv rfl Try.underlying37 Try.underlying3 rfl) <| rl_v rfl rfl rfl (ov_assign rfl rfl) <| rl_nil <| run_seq <| run_region <| rl_v rfl rfl rfl (ov_move rfl rfl) <| rl_v rfl rfl rfl (ov_move rfl rfl) ?_
   refine rl_call callable_19 rfl rfl rfl rfl rfl rfl (rank5_any oa k oc E (IntKind.i64.wrap (IntKind.u64.wrap (X i) % IntKind.u64.wrap (N : Int))) _ (by omega) (hr.reads hO 0 rfl)) (fun e4 w5 hp6 => ?_)
   obtain ⟨rfl, hb⟩ := hp6
   refine ⟨_, rfl, ?_⟩
   have hO7 := hO.past hb
   refine rl_v rfl rfl rfl (ov_move rfl rfl) <| rl_v rfl rfl rfl (ov_len rfl Try.underlying23 rfl) <| rl_v rfl rfl rfl (ov_eql rfl rfl rfl) <| rl_nil ?_
   first | refine run_cond_dec rfl (fun h3 => ?_) (fun h3 => ?_) | refine run_cond rfl (fun h3 => ?_) (fun h3 => ?_)
   ·refine run_region <| rl_v rfl rfl rfl (ov_move rfl rfl) <| rl_v rfl rfl rfl (ov_move rfl rfl) <| rl_ow rfl (ow_one rfl rfl rfl Try.underlying23 info_3 rfl hO7 rfl rfl) ?_
    rintro _ w8 ⟨b9, rfl, hO9, hs10⟩
    refine rl_ow rfl (ow_app1 rfl rfl rfl Try.underlying23 info_3 rfl hO9 0 hr rfl rfl rfl rfl ⟨by omega, by omega⟩) ?_
    rintro _ w11 ⟨v5, c5, rfl, hO12, hr5, hs13⟩
    obtain ⟨oa5, oc5, rfl⟩ := Row.val hr5
    have hL5 : IsL (k + 1) (upd E k (IntKind.i64.wrap (IntKind.u64.wrap (X i) % IntKind.u64.wrap (N : Int)))) N := by
     have hno : ∀ j : Int, 0 ≤ j → j < k → E j ≠ IntKind.i64.wrap (IntKind.u64.wrap (X i) % IntKind.u64.wrap (N : Int)) := fun j j0 j1 => rk_ne (n := k) j0 (by omega)
     refine ⟨fun j j0 j1 => ?_, fun a b a0 a1 b0 b1 e => ?_⟩
     ·by_cases c : j = k
      ·rw [c, upd_same, hx4]; exact ⟨hx3, hx2⟩
      ·rw [upd_ne _ _ c]; exact hL.1 j j0 (by omega)
     ·by_cases c : a = k <;> by_cases d : b = k
      ·omega
      ·rw [c, upd_same, upd_ne _ _ d] at e; exact absurd e.symm (hno b b0 (by omega))
      ·rw [d, upd_same, upd_ne _ _ c] at e; exact absurd e (hno a a0 (by omega))
      ·rw [upd_ne _ _ c, upd_ne _ _ d] at e; exact hL.2 a b a0 (by omega) b0 (by omega) e
    refine rl_v rfl rfl rfl (ov_assign rfl rfl) <| rl_nil <| run_inBlock <| run_region <| rl_v rfl rfl rfl (ov_move rfl rfl) <| rl_v rfl rfl rfl (ov_add rfl rfl rfl (by omega)) ?_
    refine rl_v rfl rfl rfl (ov_assign rfl rfl) <| rl_nil ?_
    refine Run.use (ih2 (i + 1) (k + 1) (oa5) (oc5) _ ?_ ?_) (And.intro (by exact slot_int rfl (by first | omega)) (And.intro rfl (And.intro rfl (And.intro rfl trivial))))
    ·first | omega | (dsimp only; omega)
    ·exact ⟨_, c5, by omega, by omega, by omega, hL5, hr5.congr (fun j j0 j1 => by unfold upd; split <;> rfl), hO12⟩
   ·refine run_skip <| run_inBlock <| run_region <| rl_v rfl rfl rfl (ov_move rfl rfl) <| rl_v rfl rfl rfl (ov_add rfl rfl rfl (by omega)) ?_
    refine rl_v rfl rfl rfl (ov_assign rfl rfl) <| rl_nil ?_
    refine Run.use (ih2 (i + 1) (k) (oa) (oc) _ ?_ ?_) (And.intro (by exact slot_int rfl (by first | omega)) (And.intro rfl (And.intro rfl (And.intro rfl trivial))))
    ·first | omega | (dsimp only; omega)
    ·exact ⟨E, c', by omega, by omega, by omega, hL, hr, hO7⟩
  ·refine run_exit rfl <| run_seq <| run_region <| rl_v rfl rfl rfl (ov_move rfl rfl) <| rl_v rfl rfl rfl (ov_assign rfl rfl) <| rl_nil <| run_ret Try.func18 (res1 Try.results18 rfl) ?_
   exact ⟨_, k, E, c', rfl, by omega, hL, hr, hO⟩
 ·refine rl_gskip rfl rfl rfl rfl rfl rfl <| rl_gskip rfl rfl rfl rfl rfl rfl <| rl_v rfl rfl rfl (ov_pick_f rfl rfl rfl) <| rl_nil <| run_cond_f rfl <| run_exit rfl <| run_seq <| run_region <| rl_v rfl rfl rfl (ov_move rfl rfl) <| rl_v rfl rfl rfl (ov_assign rfl rfl) <| rl_nil <| run_ret Try.func18 (res1 Try.results18 rfl) ?_
  exact ⟨_, k, E, c', rfl, by omega, hL, hr, hO⟩
end Go.Proofs.Ytlldeifbfpmbaaa
