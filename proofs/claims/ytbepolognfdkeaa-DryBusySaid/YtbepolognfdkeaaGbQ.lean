import Derived.Test.YtbepolognfdkeaaGbP
set_option maxRecDepth 100000
namespace Go.Proofs.Ytbepolognfdkeaa
open Go.RowKit Go.Proofs Go.MapKept
theorem ldF_upd (l : Lds) (j : Nat) (n : Nat) : ∀ i : Int, 0 ≤ i → i < n → upd (ldF l) j (ldF l j) i = ldF l i := fun i _ _ => by
 by_cases c : i = j
 ·rw [c, upd_same]
 ·rw [upd_ne _ _ c]
theorem give7_any (la : Option Addr) (lc : Nat) (l : Lds) (w : World) (hn : l.n ≤ 100000) (hl : SAt w.heap.size w la 4 l.n (ldF l)) :
  Calls Try.prog 15 #[.slice la l.n lc] w fun e w' => ∃ (va : Option Addr) (vc : Nat) (c : Option Blk), e = .returned (.slice va l.n vc) ∧ SRow (.slice va l.n vc) 84 4 l.n (ldF l) c ∧ Own w.heap.size w w' [c] := by
 obtain ⟨lb, lo, hla, hlr⟩ := hl.open (by decide)
 refine calls_of_run (F := [(0, _)]) Try.func15 rfl Try.ntmps15 rfl rfl ?_
 have hO0 := Own.init w
 have hOn := hO0.nil_cons
 refine run_seq <| run_region <| rl_v rfl rfl rfl (ov_assign rfl rfl) <| rl_nil <| run_seq <| run_region <| rl_v rfl rfl rfl (ov_assign rfl rfl) <| rl_nil <| run_seq <| run_seq <| run_region <| rl_v rfl rfl rfl (ov_assign rfl rfl) <| rl_nil <| run_block <| Run.keep [0, 3, 4] (F' := [(0, _), (3, _), (4, _)]) rfl <| run_loop2 (fun (j : Nat) (v : Value) => [(4, .int .i64 (j : Int)), (3, v)]) [0] (fun (j : Nat) (v : Value) (w1 : World) => j ≤ l.n ∧ ∃ c : Option Blk, SRow v 84 4 j (ldF l) c ∧ Own w.heap.size w w1 [c]) (fun (j : Nat) (v : Value) => l.n - j) (0) (.slice none 0 0) ?_ (And.intro (by exact slot_int rfl (by first | omega)) (And.intro rfl (And.intro rfl trivial))) ?_
 ·exact ⟨Nat.zero_le _, none, SRow.nil _ _ _, hOn⟩
 intro j v w1 hIw1 ih2
 obtain ⟨hj, c, hr, hO1⟩ := hIw1
 show Run _ _ _ _ [(4, _), (3, _), (0, _)] _ _
 refine run_seq <| run_seq <| run_region <| rl_v rfl rfl rfl (ov_move rfl rfl) <| rl_v rfl rfl rfl (ov_move rfl rfl) <| rl_v rfl rfl rfl (ov_len rfl Try.underlying22 rfl) <| rl_v rfl rfl rfl (ov_lss rfl rfl rfl) <| rl_nil ?_
 first | refine run_cond_dec rfl (fun c1 => ?_) (fun c1 => ?_) | refine run_cond rfl (fun c1 => ?_) (fun c1 => ?_)
 ·refine run_skip <| run_seq <| run_block <| run_region <| rl_v rfl rfl rfl (ov_move rfl rfl) <| rl_v rfl rfl rfl (ov_move rfl rfl) <| rl_v rfl rfl rfl (ov_move rfl rfl) <| rl_v rfl rfl rfl (ov_index rfl Try.underlying22 (by kernel_rfl) (s := 4) rfl rfl ⟨by omega, by omega⟩ (by exact hla (by omega))) ?_
  refine rl_v rfl rfl rfl (ov_loadE rfl Try.underlying72 rfl (by kernel_rfl) rfl ⟨by omega, by omega⟩ rfl (hlr _ hO1.below)) ?_
  refine rl_ow rfl (ow_build [_] rfl rfl rfl rfl rfl Try.underlying27 info_84 (by decide) hO1 rfl rfl) ?_
  rintro _ w3 ⟨b16, rfl, hO4, hs5⟩
  refine rl_ow rfl (ow_appR1 rfl rfl rfl Try.underlying27 info_84 rfl rfl hO4 0 hr rfl rfl rfl rfl rfl ⟨by omega, by omega⟩) ?_
  rintro _ w6 ⟨v2, c2, rfl, hO7, hr2, hs8⟩
  refine rl_v rfl rfl rfl (ov_assign rfl rfl) <| rl_nil <| run_inBlock <| run_region <| rl_v rfl rfl rfl (ov_move rfl rfl) <| rl_v rfl rfl rfl (ov_add rfl rfl rfl (by omega)) ?_
  refine rl_v rfl rfl rfl (ov_assign rfl rfl) <| rl_nil ?_
  refine Run.use (ih2 (j + 1) (v2) _ ?_ ?_) (And.intro (by exact slot_int rfl (by first | omega)) (And.intro rfl (And.intro rfl trivial)))
  ·first | omega | (dsimp only; omega)
  ·exact ⟨by omega, c2, hr2.congr (ldF_upd l j (j + 1)), hO7⟩
 ·obtain ⟨va, vc, rfl⟩ := Row.val hr
  have hjn : j = l.n := by omega
  subst hjn
  refine run_exit rfl <| run_seq <| run_region <| rl_v rfl rfl rfl (ov_move rfl rfl) <| rl_v rfl rfl rfl (ov_assign rfl rfl) <| rl_nil <| run_ret Try.func15 (res1 Try.results15 rfl) ?_
  exact ⟨va, vc, c, rfl, hr, hO1⟩
end Go.Proofs.Ytbepolognfdkeaa
