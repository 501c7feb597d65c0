import Derived.Test.YtbcjfjldmfljgaaGreatPrw
import Derived.Test.YtbcjfjldmfljgaaGreatItk
set_option maxRecDepth 100000
namespace Go.Proofs.YtbcjfjldmfljgaaGreat
open Go.RowKit Go.Proofs Go.MapKept
theorem modsT {x m : Int} (hm : 0 < m ∧ m ≤ 1000000000000) : IntKind.i64.wrap (IntKind.u64.wrap x % m) = x % 18446744073709551616 % m ∧ 0 ≤ x % 18446744073709551616 % m ∧ x % 18446744073709551616 % m < m := by
 have h1 := Int.emod_nonneg (x % 18446744073709551616) (show m ≠ 0 by omega)
 have h2 := Int.emod_lt_of_pos (x % 18446744073709551616) hm.1
 exact ⟨by rw [IntKind.wrap_u64, IntKind.wrap_i64]; omega, h1, h2⟩
theorem tints_any (xa ya : Option Addr) (xn xc yn yc : Nat) (X Y : Int → Int) (w : World) (hx : IAt w.heap.size w xa xn (fun i => iv (X i))) (hy : IAt w.heap.size w ya yn (fun i => iv (Y i))) (hb : xn ≤ 1000000) (hne : xn = yn) (he : ∀ i : Int, 0 ≤ i → i < xn → X i = Y i) :
  Calls Tryz.prog 9 #[.slice xa xn xc, .slice ya yn yc] w fun e w' => e = .returned (.bool true) ∧ Own w.heap.size w w' [] := by
 obtain ⟨xb, xo, hxa, hxr⟩ := hx.open
 obtain ⟨yb, yo, hya, hyr⟩ := hy.open
 refine calls_of_run (F := [(0, _), (1, _)]) Tryz.func9 rfl Tryz.ntmps9 rfl rfl ?_
 have hO0 := Own.init w
 refine run_seq <| run_region <| rl_v rfl rfl rfl (ov_assign rfl rfl) <| rl_nil <| run_seq <| run_seq <| run_region <| rl_v rfl rfl rfl (ov_move rfl rfl) <| rl_v rfl rfl rfl (ov_len rfl Tryz.underlying30 rfl) <| rl_v rfl rfl rfl (ov_move rfl rfl) <| rl_v rfl rfl rfl (ov_len rfl Tryz.underlying30 rfl) <| rl_v rfl rfl rfl (ov_neq rfl rfl rfl) <| rl_nil ?_
 first | refine run_cond_dec rfl (fun c1 => ?_) (fun c1 => ?_) | refine run_cond rfl (fun c1 => ?_) (fun c1 => ?_)
 ·exfalso; omega
 ·refine run_skip <| run_seq <| run_seq <| run_region <| rl_v rfl rfl rfl (ov_assign rfl rfl) <| rl_nil <| run_block <| Run.keep [0, 1, 5] (F' := [(0, _), (1, _), (5, _)]) rfl <| run_loop1 (fun (i : Nat) => [(5, .int .i64 (i : Int))]) [0, 1] (fun (i : Nat) (w1 : World) => i ≤ xn ∧ Own w.heap.size w w1 []) (fun (i : Nat) => xn - i) (0) ?_ (And.intro (by exact slot_int rfl (by first | omega)) (And.intro rfl (And.intro rfl trivial))) ?_
  ·exact ⟨Nat.zero_le _, hO0⟩
  intro i w1 hIw1 ih2
  obtain ⟨hi, hO1⟩ := hIw1
  show Run _ _ _ _ [(5, _), (0, _), (1, _)] _ _
  refine run_seq <| run_seq <| run_region <| rl_v rfl rfl rfl (ov_move rfl rfl) <| rl_v rfl rfl rfl (ov_move rfl rfl) <| rl_v rfl rfl rfl (ov_len rfl Tryz.underlying30 rfl) <| rl_v rfl rfl rfl (ov_lss rfl rfl rfl) <| rl_nil ?_
  first | refine run_cond_dec rfl (fun c2 => ?_) (fun c2 => ?_) | refine run_cond rfl (fun c2 => ?_) (fun c2 => ?_)
  ·have hei := he i (by omega) c2
   refine run_skip <| run_seq <| run_block <| run_seq <| run_quiet mixed (by kernel_rfl) ?_
   refine rq_v rfl rfl rfl (fun _ => ov_move rfl rfl) ?_
   refine rq_v rfl rfl rfl (fun _ => ov_move rfl rfl) ?_
   refine rq_v rfl rfl rfl (fun _ => ov_index1 rfl Tryz.underlying30 (by kernel_rfl) rfl rfl ⟨by omega, by omega⟩ (by exact hxa (by omega))) ?_
   refine rq_v rfl rfl rfl (fun _ => ov_load rfl Tryz.underlying3 rfl rfl (by show World.cell? w1 _ = _; first | exact hxr _ hO1.below i (by omega) c2)) ?_
   refine rq_v rfl rfl rfl (fun _ => ov_move rfl rfl) ?_
   refine rq_v rfl rfl rfl (fun _ => ov_move rfl rfl) ?_
   refine rq_v rfl rfl rfl (fun _ => ov_index1 rfl Tryz.underlying30 (by kernel_rfl) rfl rfl ⟨by omega, by omega⟩ (by exact hya (by omega))) ?_
   refine rq_v rfl rfl rfl (fun _ => ov_load rfl Tryz.underlying3 rfl rfl (by show World.cell? w1 _ = _; first | exact hyr _ hO1.below i (by omega) (by omega))) ?_
   refine rq_v rfl rfl rfl (fun _ => ov_neq rfl rfl rfl) ?_
   refine rq_nil (fun n3 => ?_)
   have hO5 := hO1.drewN n3
   generalize World.drewN w1 n3 = w4 at hO5 ⊢
   first | refine run_cond_dec rfl (fun c3 => ?_) (fun c3 => ?_) | refine run_cond rfl (fun c3 => ?_) (fun c3 => ?_)
   ·exfalso; exact c3 hei
   ·refine run_skip <| run_inBlock <| run_region <| rl_v rfl rfl rfl (ov_move rfl rfl) <| rl_v rfl rfl rfl (ov_add rfl rfl rfl (by omega)) ?_
    refine rl_v rfl rfl rfl (ov_assign rfl rfl) <| rl_nil ?_
    refine Run.use (ih2 (i + 1) _ ?_ ?_) (And.intro (by exact slot_int rfl (by first | omega)) (And.intro rfl (And.intro rfl trivial)))
    ·first | omega | (dsimp only; omega)
    ·exact ⟨by omega, hO5⟩
  ·refine run_exit rfl <| run_seq <| run_region <| rl_v rfl rfl rfl (ov_assign rfl rfl) <| rl_nil <| run_ret Tryz.func9 (res1 Tryz.results9 rfl) ?_
   exact ⟨rfl, hO1⟩
end Go.Proofs.YtbcjfjldmfljgaaGreat
