import Derived.Test.YtbcjfjldmfljgaaGreatRul
import Derived.Test.YtbcjfjldmfljgaaGreatBits0
set_option maxRecDepth 100000
namespace Go.Proofs.YtbcjfjldmfljgaaGreat
open Go.RowKit Go.Proofs
theorem mulbR {a b A B : Int} (ha : 0 ≤ a) (ha2 : a ≤ A) (hb : 0 ≤ b) (hb2 : b ≤ B) : 0 ≤ a * b ∧ a * b ≤ A * B :=
 ⟨Int.mul_nonneg ha hb, Int.mul_le_mul ha2 hb2 hb (Int.le_trans ha ha2)⟩
theorem mul64R_any (x y : Int) (w : World) (hx : 0 ≤ x ∧ x < 4294967296) (hy : 0 ≤ y ∧ y < 4294967296) :
  Calls Tryz.prog 87 #[.int .u64 x, .int .u64 y] w fun e w' => e = .returned (.tuple #[.int .u64 0, .int .u64 (x * y)]) ∧ Below w.heap.size w w' := by
 have hxy := mulbR hx.1 (show x ≤ 4294967295 by omega) hy.1 (show y ≤ 4294967295 by omega)
 have e0 : x % 4294967296 = x := Int.emod_eq_of_lt hx.1 hx.2
 have e1 : y % 4294967296 = y := Int.emod_eq_of_lt hy.1 hy.2
 have e2 : x / 4294967296 = 0 := Int.ediv_eq_zero_of_lt hx.1 hx.2
 have e3 : y / 4294967296 = 0 := Int.ediv_eq_zero_of_lt hy.1 hy.2
 have key : ∀ a b : Int, a = 0 → Ending.returned (.tuple #[.int .u64 a, .int .u64 b]) = .returned (.tuple #[.int .u64 0, .int .u64 b]) := by rintro _ _ rfl; rfl
 refine calls_of_run (F := [(0, _), (1, _)]) Tryz.func87 rfl Tryz.ntmps87 rfl rfl ?_
 have hO0 := Own.init w
 refine run_seq <| run_region <| rl_v rfl rfl rfl (ov_assign rfl rfl) <| rl_v rfl rfl rfl (ov_assign rfl rfl) <| rl_nil <| run_seq <| run_region <| rl_v rfl rfl rfl (ov_move rfl rfl) <| rl_v rfl rfl rfl (ov_and32 rfl rfl rfl ⟨by omega, by omega⟩) ?_
 refine rl_v rfl rfl rfl (ov_assign rfl rfl) <| rl_nil <| run_seq <| run_region <| rl_v rfl rfl rfl (ov_move rfl rfl) <| rl_v rfl rfl rfl (ov_shr32 rfl rfl rfl) <| rl_v rfl rfl rfl (ov_assign rfl rfl) <| rl_nil <| run_seq <| run_region <| rl_v rfl rfl rfl (ov_move rfl rfl) <| rl_v rfl rfl rfl (ov_and32 rfl rfl rfl ⟨by omega, by omega⟩) ?_
 refine rl_v rfl rfl rfl (ov_assign rfl rfl) <| rl_nil <| run_seq <| run_region <| rl_v rfl rfl rfl (ov_move rfl rfl) <| rl_v rfl rfl rfl (ov_shr32 rfl rfl rfl) <| rl_v rfl rfl rfl (ov_assign rfl rfl) <| rl_nil <| run_seq <| run_region <| rl_v rfl rfl rfl (ov_move rfl rfl) <| rl_v rfl rfl rfl (ov_move rfl rfl) <| rl_v rfl rfl rfl (ov_mulU rfl rfl rfl (by rw [e0, e1]; omega)) ?_
 refine rl_v rfl rfl rfl (ov_assign rfl rfl) <| rl_nil <| run_seq <| run_region <| rl_v rfl rfl rfl (ov_move rfl rfl) <| rl_v rfl rfl rfl (ov_move rfl rfl) <| rl_v rfl rfl rfl (ov_mulU rfl rfl rfl (by rw [e2, e1]; omega)) ?_
 refine rl_v rfl rfl rfl (ov_move rfl rfl) <| rl_v rfl rfl rfl (ov_shr32 rfl rfl rfl) <| rl_v rfl rfl rfl (ov_addU rfl rfl rfl (by rw [e2, e1, e0]; omega)) ?_
 refine rl_v rfl rfl rfl (ov_assign rfl rfl) <| rl_nil <| run_seq <| run_region <| rl_v rfl rfl rfl (ov_move rfl rfl) <| rl_v rfl rfl rfl (ov_and32 rfl rfl rfl (by rw [e2, e1, e0]; omega)) ?_
 refine rl_v rfl rfl rfl (ov_assign rfl rfl) <| rl_nil <| run_seq <| run_region <| rl_v rfl rfl rfl (ov_move rfl rfl) <| rl_v rfl rfl rfl (ov_shr32 rfl rfl rfl) <| rl_v rfl rfl rfl (ov_assign rfl rfl) <| rl_nil <| run_seq <| run_region <| rl_v rfl rfl rfl (ov_move rfl rfl) <| rl_v rfl rfl rfl (ov_move rfl rfl) <| rl_v rfl rfl rfl (ov_move rfl rfl) <| rl_v rfl rfl rfl (ov_mulU rfl rfl rfl (by rw [e0, e3]; omega)) ?_
 refine rl_v rfl rfl rfl (ov_addU rfl rfl rfl (by rw [e0, e1, e2, e3]; omega)) ?_
 refine rl_v rfl rfl rfl (ov_assign rfl rfl) <| rl_nil <| run_seq <| run_region <| rl_v rfl rfl rfl (ov_move rfl rfl) <| rl_v rfl rfl rfl (ov_move rfl rfl) <| rl_v rfl rfl rfl (ov_mulU rfl rfl rfl (by rw [e2, e3]; omega)) ?_
 refine rl_v rfl rfl rfl (ov_move rfl rfl) <| rl_v rfl rfl rfl (ov_addU rfl rfl rfl (by rw [e0, e1, e2, e3]; omega)) ?_
 refine rl_v rfl rfl rfl (ov_move rfl rfl) <| rl_v rfl rfl rfl (ov_shr32 rfl rfl rfl) <| rl_v rfl rfl rfl (ov_addU rfl rfl rfl (by rw [e0, e1, e2, e3]; omega)) ?_
 refine rl_v rfl rfl rfl (ov_assign rfl rfl) <| rl_nil <| run_seq <| run_region <| rl_v rfl rfl rfl (ov_move rfl rfl) <| rl_v rfl rfl rfl (ov_move rfl rfl) <| rl_v rfl rfl rfl (ov_mulU rfl rfl rfl (by omega)) ?_
 refine rl_v rfl rfl rfl (ov_assign rfl rfl) <| rl_nil <| run_ret Tryz.func87 (res2 Tryz.results87 rfl rfl) ?_
 exact ⟨key _ _ (by rw [e0, e1, e2, e3]; omega), hO0.below⟩
theorem mulR_any (x y : Int) (w : World) (hx : 0 ≤ x ∧ x < 4294967296) (hy : 0 ≤ y ∧ y < 4294967296) :
  Calls Tryz.prog 91 #[.int .u64 x, .int .u64 y] w fun e w' => e = .returned (.tuple #[.int .u64 0, .int .u64 (x * y)]) ∧ Below w.heap.size w w' := by
 refine calls_of_run (F := [(0, _), (1, _)]) Tryz.func91 rfl Tryz.ntmps91 rfl rfl ?_
 have hO0 := Own.init w
 refine run_seq <| run_region <| rl_v rfl rfl rfl (ov_assign rfl rfl) <| rl_v rfl rfl rfl (ov_assign rfl rfl) <| rl_nil <| run_seq <| run_cond_f rfl <| run_skip <| run_seq <| run_region <| rl_v rfl rfl rfl (ov_move rfl rfl) <| rl_v rfl rfl rfl (ov_move rfl rfl) ?_
 refine rl_call callable_87 rfl rfl rfl rfl rfl rfl (mul64R_any x y _ hx hy) (fun e1 w2 hp3 => ?_)
 obtain ⟨rfl, hb⟩ := hp3
 refine ⟨_, rfl, ?_⟩
 have hO4 := hO0.past hb
 refine rl_v rfl rfl rfl (ov_move rfl rfl) <| rl_v rfl rfl rfl (ov_extract rfl rfl (by rfl)) ?_
 refine rl_v rfl rfl rfl (ov_extract rfl rfl (by rfl)) ?_
 refine rl_v rfl rfl rfl (ov_assign rfl rfl) <| rl_v rfl rfl rfl (ov_assign rfl rfl) <| rl_nil <| run_seq <| run_region <| rl_v rfl rfl rfl (ov_move rfl rfl) <| rl_v rfl rfl rfl (ov_move rfl rfl) <| rl_v rfl rfl rfl (ov_assign rfl rfl) <| rl_v rfl rfl rfl (ov_assign rfl rfl) <| rl_nil <| run_ret Tryz.func91 (res2 Tryz.results91 rfl rfl) ?_
 exact ⟨rfl, hO4.below⟩
theorem repeatR_any (ao : Option Addr) (c m : Nat) (x : Int) (w : World) (hm : 1 ≤ m) (hm2 : m ≤ 1000000)
  (h : IAt w.heap.size w ao 1 (fun _ => .int .i64 x)) :
  Calls Tryz.prog 77 #[.slice ao 1 c, .int .i64 m] w fun e w' =>
   ∃ b, e = .returned (.slice (some ⟨b, 0, none⟩) m m) ∧ Own w.heap.size w w' [some (vch b 3 m (fun _ => .int .i64 x))] := by
 obtain ⟨gb, go, hga, hrow⟩ := h.open
 have ew : IntKind.u64.wrap (m : Int) = m := IntWalk.u64_in _ (by omega)
 obtain rfl := hga (by omega)
 have ew1 : IntKind.u64.wrap ((1 : Nat) : Int) * IntKind.u64.wrap (m : Int) = m := by
  rw [ew, show IntKind.u64.wrap ((1 : Nat) : Int) = 1 from IntWalk.u64_in _ (by omega), Int.one_mul]
 have ei : IntKind.i64.wrap (IntKind.u64.wrap ((1 : Nat) : Int) * IntKind.u64.wrap (m : Int)) = m := by rw [ew1]; exact IntWalk.i64_in _ (by omega)
 refine calls_of_run (F := [(0, _), (1, _)]) Tryz.func77 rfl Tryz.ntmps77 rfl rfl ?_
 have hO0 := Own.init w
 refine run_seq <| run_region <| rl_v rfl rfl rfl (ov_assign rfl rfl) <| rl_nil <| run_seq <| run_seq <| run_region <| rl_v rfl rfl rfl (ov_move rfl rfl) <| rl_v rfl rfl rfl (ov_lss rfl rfl rfl) <| rl_nil ?_
 first | refine run_cond_dec rfl (fun h1 => ?_) (fun h1 => ?_) | refine run_cond rfl (fun h1 => ?_) (fun h1 => ?_)
 ·exfalso; omega
 ·refine run_skip <| run_seq <| run_region <| rl_v rfl rfl rfl (ov_move rfl rfl) <| rl_v rfl rfl rfl (ov_len rfl Tryz.underlying30 rfl) <| rl_v rfl rfl rfl (ov_conv rfl Tryz.underlying3 Tryz.underlying23 rfl) <| rl_v rfl rfl rfl (ov_move rfl rfl) <| rl_v rfl rfl rfl (ov_conv rfl Tryz.underlying3 Tryz.underlying23 rfl) ?_
  refine rl_call callable_91 rfl rfl rfl rfl rfl rfl (mulR_any _ _ _ ⟨by decide, by decide⟩ ⟨by rw [ew]; omega, by rw [ew]; omega⟩) (fun e1 w2 hp3 => ?_)
  obtain ⟨rfl, hb⟩ := hp3
  refine ⟨_, rfl, ?_⟩
  have hO4 := hO0.past hb
  refine rl_v rfl rfl rfl (ov_move rfl rfl) <| rl_v rfl rfl rfl (ov_extract rfl rfl (by rfl)) ?_
  refine rl_v rfl rfl rfl (ov_extract rfl rfl (by rfl)) ?_
  refine rl_v rfl rfl rfl (ov_assign rfl rfl) <| rl_v rfl rfl rfl (ov_assign rfl rfl) <| rl_nil <| run_seq <| run_seq <| run_region <| rl_v rfl rfl rfl (ov_move rfl rfl) <| rl_v rfl rfl rfl (ov_gtr rfl rfl rfl) <| rl_v rfl rfl rfl (ov_move rfl rfl) ?_
  first | refine rl_split_dec 23 rfl (fun hg5 => ?_) (fun hg5 => ?_) | refine rl_split 23 rfl (fun hg5 => ?_) (fun hg5 => ?_)
  ·refine rl_gskip rfl rfl rfl rfl rfl rfl <| rl_gskip rfl rfl rfl rfl rfl rfl <| rl_v rfl rfl rfl (ov_pick_t rfl rfl rfl) <| rl_nil <| run_cond_t rfl ?_
   exfalso; omega
  ·refine rl_gv rfl rfl rfl rfl rfl (ov_move rfl rfl) <| rl_gv rfl rfl rfl rfl rfl (ov_gtr rfl rfl rfl) <| rl_v rfl rfl rfl (ov_pick_f rfl rfl rfl) <| rl_nil ?_
   first | refine run_cond_dec rfl (fun h3 => ?_) (fun h3 => ?_) | refine run_cond rfl (fun h3 => ?_) (fun h3 => ?_)
   ·exfalso; omega
   ·refine run_skip <| run_seq <| run_region <| rl_v rfl rfl rfl (ov_move rfl rfl) <| rl_v rfl rfl rfl (ov_conv rfl Tryz.underlying23 Tryz.underlying3 rfl) ?_
    refine rl_make (m) rfl rfl rfl rfl Tryz.underlying30 info_3 rfl hO4 rfl rfl (by omega) (by omega) ⟨by omega, by omega⟩ (fun b w6 hO7 hs8 => ?_)
    refine rl_v rfl rfl rfl (ov_assign rfl rfl) <| rl_nil <| run_seq <| run_region <| rl_v rfl rfl rfl (ov_move rfl rfl) <| rl_v rfl rfl rfl (ov_move rfl rfl) <| rl_ow rfl (ow_copy (1) rfl rfl rfl Tryz.underlying30 (by kernel_rfl) hO7 0 rfl rfl rfl (by omega) (by omega) (fun i h0 hi => hrow _ hO7.below i h0 (by omega)) (fun _ => rfl)) ?_
    rintro _ w9 ⟨rfl, hO10, hs11⟩
    refine rl_v rfl rfl rfl (ov_assign rfl rfl) <| rl_nil <| run_seq <| run_block <| Run.keep [7, 8] (F' := [(7, _), (8, _)]) rfl <| run_loop2 (fun (k : Int) (G : Int → Value) => [(8, .int .i64 k)]) [7] (fun (k : Int) (G : Int → Value) (w12 : World) => 1 ≤ k ∧ k ≤ m ∧ (∀ i : Int, 0 ≤ i → i < k → G i = .int .i64 x) ∧ (∀ i, (G i).oneCell' = true) ∧ Own w.heap.size w w12 [some (vch b 3 m G)]) (fun (k : Int) (G : Int → Value) => ((m : Int) - k).toNat) (1) (fun j => if ((0 : Nat) : Int) ≤ j ∧ j < ((0 : Nat) : Int) + ((1 : Nat) : Int) then .int .i64 x else .int .i64 0) ?_ (And.intro (by exact slot_int rfl (by first | omega)) (And.intro rfl trivial)) ?_
    ·exact ⟨by omega, by omega, fun i h0 h1 => if_pos (by omega), fun i => by (dsimp only; split <;> rfl), hO10⟩
    intro k G w12 hIw12 ih13
    obtain ⟨hk0, hk1, hG, hG1, hO⟩ := hIw12
    show Run _ _ _ _ [(8, _), (7, _)] _ _
    refine run_seq <| run_seq <| run_region <| rl_v rfl rfl rfl (ov_move rfl rfl) <| rl_v rfl rfl rfl (ov_move rfl rfl) <| rl_v rfl rfl rfl (ov_len rfl Tryz.underlying30 rfl) <| rl_v rfl rfl rfl (ov_lss rfl rfl rfl) <| rl_nil ?_
    first | refine run_cond_dec rfl (fun h5 => ?_) (fun h5 => ?_) | refine run_cond rfl (fun h5 => ?_) (fun h5 => ?_)
    ·refine run_skip <| run_block <| run_held (fun w' => Own w.heap.size w w' ([none])) mixed ?_
     have hO15 := hO.drew
     generalize World.drew w12 = w14 at hO15 ⊢
     have hS16 : Own w.heap.size w w14 ([none]) := by exact ⟨hO15.below, hO15.hB, by simp, by simp, by simp⟩
     refine rh_v 0 rfl (by kernel_rfl) rfl rfl rfl hS16 (fun _ hS => ov_move rfl rfl) ?_
     refine rh_v 1 rfl (by kernel_rfl) rfl rfl rfl hS16 (fun _ hS => ov_move rfl rfl) ?_
     refine rh_v 2 rfl (by kernel_rfl) rfl rfl rfl hS16 (fun _ hS => ov_move rfl rfl) ?_
     refine rh_v 3 rfl (by kernel_rfl) rfl rfl rfl hS16 (fun _ hS => ov_sliceL rfl Tryz.underlying30 (by kernel_rfl) (s := 1) rfl rfl ⟨by omega, by omega⟩ (by omega) rfl) ?_
     refine rh_v 4 rfl (by kernel_rfl) rfl rfl rfl hS16 (fun _ hS => ov_move rfl rfl) ?_
     refine rh_v 5 rfl (by kernel_rfl) rfl rfl rfl hS16 (fun _ hS => ov_move rfl rfl) ?_
     refine rh_v 6 rfl (by kernel_rfl) rfl rfl rfl hS16 (fun _ hS => ov_sliceH (k.toNat) (s := 1) rfl Tryz.underlying30 (by kernel_rfl) rfl rfl (by omega) (by omega)) ?_
     refine rh_any1 7 (by kernel_rfl) ?_
     refine rc_op rfl rfl (ow_copy ((min k.toNat (m - k.toNat))) rfl rfl rfl Tryz.underlying30 (by kernel_rfl) hO15 0 rfl rfl rfl (by rfl) (by omega) (fun i h0 hi => hO15.cellI 0 rfl i h0 (by omega)) (hG1)) ?_
     rintro _ w17 ⟨rfl, hO18, hs19⟩
     have hS20 : Own w.heap.size w w17 ([none]) := by exact ⟨hO18.below, hO18.hB, by simp, by simp, by simp⟩
     refine ⟨hS20, ?_⟩
     refine rh_v 8 rfl (by kernel_rfl) rfl rfl rfl hS20 (fun _ hS => ov_add rfl rfl rfl (by omega)) ?_
     refine rh_v 9 rfl (by kernel_rfl) rfl rfl rfl hS20 (fun _ hS => ov_assign rfl rfl) ?_
     refine rh_done (by kernel_rfl) ?_
     refine run_inBlock ?_
     refine Run.use (ih13 (k + ((min k.toNat (m - k.toNat) : Nat) : Int)) (fun j => if (((0 + k.toNat * 1 : Nat) : Int)) ≤ j ∧ j < ((0 + k.toNat * 1 : Nat) : Int) + ((min k.toNat (m - k.toNat) : Nat) : Int) then G (j - ((0 + k.toNat * 1 : Nat) : Int)) else G j) _ ?_ ?_) (And.intro (by exact slot_int rfl (by first | omega)) (And.intro rfl trivial))
     ·first | omega | (dsimp only; omega)
     ·exact ⟨by omega, by omega, fun i h0 h1 => by split; exact hG _ (by omega) (by omega); exact hG _ (by omega) (by omega), fun i => by split <;> exact hG1 _, hO18⟩
    ·refine run_exit rfl <| run_seq <| run_region <| rl_v rfl rfl rfl (ov_move rfl rfl) <| rl_v rfl rfl rfl (ov_assign rfl rfl) <| rl_nil <| run_ret Tryz.func77 (res1 Tryz.results77 rfl) ?_
     exact ⟨b, rfl, hO.congrI 0 rfl (fun i h0 hi => hG i h0 (by omega))⟩
theorem repeatR0_any (ao : Option Addr) (c : Nat) (x : Int) (w : World)
  (h : IAt w.heap.size w ao 1 (fun _ => .int .i64 x)) :
  Calls Tryz.prog 77 #[.slice ao 1 c, .int .i64 0] w fun e w' =>
   ∃ b, e = .returned (.slice (some ⟨b, 0, none⟩) 0 0) ∧ Own w.heap.size w w' [some (vch b 3 0 (fun _ => .int .i64 x))] := by
 obtain ⟨gb, go, hga, hrow⟩ := h.open
 obtain rfl := hga (by omega)
 have ew1 : IntKind.u64.wrap ((1 : Nat) : Int) * IntKind.u64.wrap 0 = 0 := by
  rw [show IntKind.u64.wrap ((1 : Nat) : Int) = 1 from IntWalk.u64_in _ (by omega), show IntKind.u64.wrap 0 = 0 from IntWalk.u64_in _ (by omega)]; rfl
 have ei : IntKind.i64.wrap (IntKind.u64.wrap ((1 : Nat) : Int) * IntKind.u64.wrap 0) = 0 := by rw [ew1]; exact IntWalk.i64_in _ (by omega)
 refine calls_of_run (F := [(0, _), (1, _)]) Tryz.func77 rfl Tryz.ntmps77 rfl rfl ?_
 have hO0 := Own.init w
 refine run_seq <| run_region <| rl_v rfl rfl rfl (ov_assign rfl rfl) <| rl_nil <| run_seq <| run_seq <| run_region <| rl_v rfl rfl rfl (ov_move rfl rfl) <| rl_v rfl rfl rfl (ov_lss rfl rfl rfl) <| rl_nil ?_
 first | refine run_cond_dec rfl (fun h1 => ?_) (fun h1 => ?_) | refine run_cond rfl (fun h1 => ?_) (fun h1 => ?_)
 ·exfalso; omega
 ·refine run_skip <| run_seq <| run_region <| rl_v rfl rfl rfl (ov_move rfl rfl) <| rl_v rfl rfl rfl (ov_len rfl Tryz.underlying30 rfl) <| rl_v rfl rfl rfl (ov_conv rfl Tryz.underlying3 Tryz.underlying23 rfl) <| rl_v rfl rfl rfl (ov_move rfl rfl) <| rl_v rfl rfl rfl (ov_conv rfl Tryz.underlying3 Tryz.underlying23 rfl) ?_
  refine rl_call callable_91 rfl rfl rfl rfl rfl rfl (mulR_any _ _ _ ⟨by decide, by decide⟩ ⟨by decide, by decide⟩) (fun e1 w2 hp3 => ?_)
  obtain ⟨rfl, hb⟩ := hp3
  refine ⟨_, rfl, ?_⟩
  have hO4 := hO0.past hb
  refine rl_v rfl rfl rfl (ov_move rfl rfl) <| rl_v rfl rfl rfl (ov_extract rfl rfl (by rfl)) ?_
  refine rl_v rfl rfl rfl (ov_extract rfl rfl (by rfl)) ?_
  refine rl_v rfl rfl rfl (ov_assign rfl rfl) <| rl_v rfl rfl rfl (ov_assign rfl rfl) <| rl_nil <| run_seq <| run_seq <| run_region <| rl_v rfl rfl rfl (ov_move rfl rfl) <| rl_v rfl rfl rfl (ov_gtr rfl rfl rfl) <| rl_v rfl rfl rfl (ov_move rfl rfl) ?_
  first | refine rl_split_dec 23 rfl (fun hg5 => ?_) (fun hg5 => ?_) | refine rl_split 23 rfl (fun hg5 => ?_) (fun hg5 => ?_)
  ·refine rl_gskip rfl rfl rfl rfl rfl rfl <| rl_gskip rfl rfl rfl rfl rfl rfl <| rl_v rfl rfl rfl (ov_pick_t rfl rfl rfl) <| rl_nil <| run_cond_t rfl ?_
   exfalso; omega
  ·refine rl_gv rfl rfl rfl rfl rfl (ov_move rfl rfl) <| rl_gv rfl rfl rfl rfl rfl (ov_gtr rfl rfl rfl) <| rl_v rfl rfl rfl (ov_pick_f rfl rfl rfl) <| rl_nil ?_
   first | refine run_cond_dec rfl (fun h3 => ?_) (fun h3 => ?_) | refine run_cond rfl (fun h3 => ?_) (fun h3 => ?_)
   ·exfalso; omega
   ·refine run_skip <| run_seq <| run_region <| rl_v rfl rfl rfl (ov_move rfl rfl) <| rl_v rfl rfl rfl (ov_conv rfl Tryz.underlying23 Tryz.underlying3 rfl) ?_
    refine rl_make (0) rfl rfl rfl rfl Tryz.underlying30 info_3 rfl hO4 rfl rfl (by rfl) (by rfl) ⟨by omega, by omega⟩ (fun b w6 hO7 hs8 => ?_)
    refine rl_v rfl rfl rfl (ov_assign rfl rfl) <| rl_nil <| run_seq <| run_region <| rl_v rfl rfl rfl (ov_move rfl rfl) <| rl_v rfl rfl rfl (ov_move rfl rfl) <| rl_ow rfl (ow_copy (0) rfl rfl rfl Tryz.underlying30 (by kernel_rfl) hO7 0 rfl rfl rfl (by rfl) (by omega) (fun i h0 hi => hrow _ hO7.below i h0 (by omega)) (fun _ => rfl)) ?_
    rintro _ w9 ⟨rfl, hO10, hs11⟩
    refine rl_v rfl rfl rfl (ov_assign rfl rfl) <| rl_nil <| run_seq <| run_block <| run_once <| run_seq <| run_seq <| run_region <| rl_v rfl rfl rfl (ov_move rfl rfl) <| rl_v rfl rfl rfl (ov_move rfl rfl) <| rl_v rfl rfl rfl (ov_len rfl Tryz.underlying30 rfl) <| rl_v rfl rfl rfl (ov_lss rfl rfl rfl) <| rl_nil ?_
    first | refine run_cond_dec rfl (fun h5 => ?_) (fun h5 => ?_) | refine run_cond rfl (fun h5 => ?_) (fun h5 => ?_)
    ·exfalso; omega
    ·refine run_exit rfl <| run_seq <| run_region <| rl_v rfl rfl rfl (ov_move rfl rfl) <| rl_v rfl rfl rfl (ov_assign rfl rfl) <| rl_nil <| run_ret Tryz.func77 (res1 Tryz.results77 rfl) ?_
     exact ⟨b, rfl, hO10.congrI 0 rfl fun i i0 i1 => by omega⟩
theorem repeatR'_any (ao : Option Addr) (c m : Nat) (x : Int) (w : World) (hm2 : m ≤ 1000000) (h : IAt w.heap.size w ao 1 (fun _ => .int .i64 x)) :
  Calls Tryz.prog 77 #[.slice ao 1 c, .int .i64 m] w fun e w' =>
   ∃ b, e = .returned (.slice (some ⟨b, 0, none⟩) m m) ∧ Own w.heap.size w w' [some (vch b 3 m (fun _ => .int .i64 x))] := by
 by_cases e : m = 0
 ·subst e; exact repeatR0_any ao c x w h
 ·exact repeatR_any ao c m x w (by omega) hm2 h
end Go.Proofs.YtbcjfjldmfljgaaGreat
