import Derived.Test.YtlldeifbfpmbaaaFbJ
set_option maxRecDepth 100000
namespace Go.Proofs.Ytlldeifbfpmbaaa
open Go.RowKit Go.Proofs Go.MapKept
theorem rank5_any (ao : Option Addr) (n c : Nat) (X : Int → Int) (v : Int) (w : World) (hn : n ≤ 1000000) (h : IAt w.heap.size w ao n (fun i => iv (X i))) :
  Calls Try.prog 19 #[.slice ao n c, iv v] w fun e w' => e = .returned (iv (rk X n v)) ∧ Below w.heap.size w w' := by
 obtain ⟨gb, go, hga, hrow⟩ := h.open
 have hr := rk_rng X v n
 refine calls_of_run (F := [(0, _), (1, _)]) Try.func19 rfl Try.ntmps19 rfl rfl ?_
 have hO0 := Own.init w
 refine run_seq <| run_region <| rl_v rfl rfl rfl (ov_assign rfl rfl) <| rl_nil <| run_seq <| run_seq <| run_region <| rl_v rfl rfl rfl (ov_assign rfl rfl) <| rl_nil <| run_block <| Run.keep [0, 1, 5] (F' := [(0, _), (1, _), (5, _)]) rfl <| run_loop1 (fun (k : Int) => [(5, .int .i64 k)]) [0, 1] (fun (k : Int) (w1 : World) => 0 ≤ k ∧ k ≤ n ∧ k ≤ rk X n v ∧ Own w.heap.size w w1 []) (fun (k : Int) => ((n : Int) - k).toNat) (0) ?_ (And.intro (by exact slot_int rfl (by first | omega)) (And.intro rfl (And.intro rfl trivial))) ?_
 ·exact ⟨by omega, by omega, hr.1, hO0⟩
 intro k w1 hIw1 ih2
 obtain ⟨hk0, hk1, hall, hO⟩ := hIw1
 show Run _ _ _ _ [(5, _), (0, _), (1, _)] _ _
 refine run_seq <| run_seq <| run_region <| rl_v rfl rfl rfl (ov_move rfl rfl) <| rl_v rfl rfl rfl (ov_move rfl rfl) <| rl_v rfl rfl rfl (ov_len rfl Try.underlying23 rfl) <| rl_v rfl rfl rfl (ov_lss rfl rfl rfl) <| rl_nil ?_
 first | refine run_cond_dec rfl (fun h1 => ?_) (fun h1 => ?_) | refine run_cond rfl (fun h1 => ?_) (fun h1 => ?_)
 ·refine run_skip <| run_seq <| run_block <| run_seq <| run_region <| rl_v rfl rfl rfl (ov_move rfl rfl) <| rl_v rfl rfl rfl (ov_move rfl rfl) <| rl_v rfl rfl rfl (ov_index1 rfl Try.underlying23 (by kernel_rfl) rfl rfl ⟨by omega, by omega⟩ (by exact hga (by omega))) ?_
  refine rl_v rfl rfl rfl (ov_load rfl Try.underlying3 rfl rfl (by exact hrow _ hO.below _ (by omega) (by omega))) ?_
  refine rl_v rfl rfl rfl (ov_move rfl rfl) <| rl_v rfl rfl rfl (ov_eql rfl rfl rfl) <| rl_nil ?_
  first | refine run_cond_dec rfl (fun h2 => ?_) (fun h2 => ?_) | refine run_cond rfl (fun h2 => ?_) (fun h2 => ?_)
  ·have hr2 : rk X n v = k := Classical.byContradiction fun e => rk_ne (n := n) hk0 (by omega) h2
   refine run_seq <| run_region <| rl_v rfl rfl rfl (ov_move rfl rfl) <| rl_v rfl rfl rfl (ov_assign rfl rfl) <| rl_nil <| run_ret Try.func19 (res1 Try.results19 rfl) ?_
   exact ⟨by rw [hr2], hO.below⟩
  ·have hk' : k + 1 ≤ rk X n v := by
    have : rk X n v ≠ k := fun e => h2 (by have := rk_at (f := X) (n := n) (x := v) (by omega); rw [e] at this; exact this)
    omega
   refine run_skip <| run_inBlock <| run_region <| rl_v rfl rfl rfl (ov_move rfl rfl) <| rl_v rfl rfl rfl (ov_add rfl rfl rfl (by omega)) ?_
   refine rl_v rfl rfl rfl (ov_assign rfl rfl) <| rl_nil ?_
   refine Run.use (ih2 _ _ ?_ ?_) (And.intro (by rfl) (And.intro rfl (And.intro rfl trivial)))
   ·first | omega | (dsimp only; omega)
   ·exact ⟨by omega, by omega, hk', hO⟩
 ·have hr3 : rk X n v = n := by omega
  refine run_exit rfl <| run_seq <| run_region <| rl_v rfl rfl rfl (ov_move rfl rfl) <| rl_v rfl rfl rfl (ov_len rfl Try.underlying23 rfl) <| rl_v rfl rfl rfl (ov_assign rfl rfl) <| rl_nil <| run_ret Try.func19 (res1 Try.results19 rfl) ?_
  exact ⟨by rw [hr3], hO.below⟩
end Go.Proofs.Ytlldeifbfpmbaaa
set_option maxRecDepth 100000
namespace Go.Proofs.Ytlldeifbfpmbaaa
open Go.RowKit Go.Proofs Go.MapKept
section
variable (bt bb bg tb : Nat) (f : Fair) (g b : Int) (w : World) (hV : Valid5 f f.m) (hP : PT w.heap.size w tb f) (h1 : LAt w.heap.size w bt [ptr tb]) (h2 : LAt w.heap.size w bb [iv b]) (h3 : LAt w.heap.size w bg [iv g])
 (b0 : 0 ≤ b) (b1 : b < f.m) (hkg : f.rb b g < f.bl b)
include hV hP h1 h2 h3 b0 b1 hkg
variable (ao : Option Addr) (n c : Nat) (X : Int → Int) (hn : n ≤ 1000000) (hX : IAt w.heap.size w ao n (fun i => iv (X i))) (hk : ∀ i : Int, 0 ≤ i → i < n → f.rb b (X i) < f.bl b)
include hn hX hk
end
end Go.Proofs.Ytlldeifbfpmbaaa
