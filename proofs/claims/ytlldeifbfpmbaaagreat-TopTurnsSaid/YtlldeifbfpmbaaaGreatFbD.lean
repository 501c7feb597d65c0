import Derived.Test.YtlldeifbfpmbaaaGreatLate
import Derived.Test.YtlldeifbfpmbaaaGreatBits0
import Derived.Test.YtlldeifbfpmbaaaGreatFbC
set_option maxRecDepth 100000
namespace Go.Proofs.YtlldeifbfpmbaaaGreat
open Go.RowKit Go.Proofs
theorem mulbR {a b A B : Int} (ha : 0 ≤ a) (ha2 : a ≤ A) (hb : 0 ≤ b) (hb2 : b ≤ B) : 0 ≤ a * b ∧ a * b ≤ A * B :=
 ⟨Int.mul_nonneg ha hb, Int.mul_le_mul ha2 hb2 hb (Int.le_trans ha ha2)⟩
theorem mul64R_any (x y : Int) (w : World) (hx : 0 ≤ x ∧ x < 4294967296) (hy : 0 ≤ y ∧ y < 4294967296) :
  Calls Tryz.prog 131 #[.int .u64 x, .int .u64 y] w fun e w' => e = .returned (.tuple #[.int .u64 0, .int .u64 (x * y)]) ∧ Below w.heap.size w w' := by
 have hxy := mulbR hx.1 (show x ≤ 4294967295 by omega) hy.1 (show y ≤ 4294967295 by omega)
 have e0 : x % 4294967296 = x := Int.emod_eq_of_lt hx.1 hx.2
 have e1 : y % 4294967296 = y := Int.emod_eq_of_lt hy.1 hy.2
 have e2 : x / 4294967296 = 0 := Int.ediv_eq_zero_of_lt hx.1 hx.2
 have e3 : y / 4294967296 = 0 := Int.ediv_eq_zero_of_lt hy.1 hy.2
 have key : ∀ a b : Int, a = 0 → Ending.returned (.tuple #[.int .u64 a, .int .u64 b]) = .returned (.tuple #[.int .u64 0, .int .u64 b]) := by rintro _ _ rfl; rfl
 refine calls_of_run (F := [(0, _), (1, _)]) Tryz.func131 rfl Tryz.ntmps131 rfl rfl ?_
 have hO0 := Own.init w
 refine run_seq <| run_region <| rl_v rfl rfl rfl (ov_assign rfl rfl) <| rl_v rfl rfl rfl (ov_assign rfl rfl) <| rl_nil <| run_seq <| run_region <| rl_v rfl rfl rfl (ov_move rfl rfl) <| rl_v rfl rfl rfl (ov_and32 rfl rfl rfl ⟨by omega, by omega⟩) ?_
 refine rl_v rfl rfl rfl (ov_assign rfl rfl) <| rl_nil <| run_seq <| run_region <| rl_v rfl rfl rfl (ov_move rfl rfl) <| rl_v rfl rfl rfl (ov_shr32 rfl rfl rfl) <| rl_v rfl rfl rfl (ov_assign rfl rfl) <| rl_nil <| run_seq <| run_region <| rl_v rfl rfl rfl (ov_move rfl rfl) <| rl_v rfl rfl rfl (ov_and32 rfl rfl rfl ⟨by omega, by omega⟩) ?_
 refine rl_v rfl rfl rfl (ov_assign rfl rfl) <| rl_nil <| run_seq <| run_region <| rl_v rfl rfl rfl (ov_move rfl rfl) <| rl_v rfl rfl rfl (ov_shr32 rfl rfl rfl) <| rl_v rfl rfl rfl (ov_assign rfl rfl) <| rl_nil <| run_seq <| run_region <| rl_v rfl rfl rfl (ov_move rfl rfl) <| rl_v rfl rfl rfl (ov_move rfl rfl) <| rl_v rfl rfl rfl (ov_mulU rfl rfl rfl (by rw [e0, e1]; omega)) ?_
 refine rl_v rfl rfl rfl (ov_assign rfl rfl) <| rl_nil <| run_seq <| run_region <| rl_v rfl rfl rfl (ov_move rfl rfl) <| rl_v rfl rfl rfl (ov_move rfl rfl) <| rl_v rfl rfl rfl (ov_mulU rfl rfl rfl (by rw [e2, e1]; omega)) ?_
 refine rl_v rfl rfl rfl (ov_move rfl rfl) <| rl_v rfl rfl rfl (ov_shr32 rfl rfl rfl) <| rl_v rfl rfl rfl (ov_addU rfl rfl rfl (by rw [e2, e1, e0]; omega)) ?_
 refine rl_v rfl rfl rfl (ov_assign rfl rfl) <| rl_nil <| run_seq <| run_region <| rl_v rfl rfl rfl (ov_move rfl rfl) <| rl_v rfl rfl rfl (ov_and32 rfl rfl rfl (by rw [e2, e1, e0]; omega)) ?_
 refine rl_v rfl rfl rfl (ov_assign rfl rfl) <| rl_nil <| run_seq <| run_region <| rl_v rfl rfl rfl (ov_move rfl rfl) <| rl_v rfl rfl rfl (ov_shr32 rfl rfl rfl) <| rl_v rfl rfl rfl (ov_assign rfl rfl) <| rl_nil <| run_seq <| run_region <| rl_v rfl rfl rfl (ov_move rfl rfl) <| rl_v rfl rfl rfl (ov_move rfl rfl) <| rl_v rfl rfl rfl (ov_move rfl rfl) <| rl_v rfl rfl rfl (ov_mulU rfl rfl rfl (by rw [e0, e3]; omega)) ?_
 refine rl_v rfl rfl rfl (ov_addU rfl rfl rfl (by rw [e0, e1, e2, e3]; omega)) ?_
 refine rl_v rfl rfl rfl (ov_assign rfl rfl) <| rl_nil <| run_seq <| run_region <| rl_v rfl rfl rfl (ov_move rfl rfl) <| rl_v rfl rfl rfl (ov_move rfl rfl) <| rl_v rfl rfl rfl (ov_mulU rfl rfl rfl (by rw [e2, e3]; omega)) ?_
 refine rl_v rfl rfl rfl (ov_move rfl rfl) <| rl_v rfl rfl rfl (ov_addU rfl rfl rfl (by rw [e0, e1, e2, e3]; omega)) ?_
 refine rl_v rfl rfl rfl (ov_move rfl rfl) <| rl_v rfl rfl rfl (ov_shr32 rfl rfl rfl) <| rl_v rfl rfl rfl (ov_addU rfl rfl rfl (by rw [e0, e1, e2, e3]; omega)) ?_
 refine rl_v rfl rfl rfl (ov_assign rfl rfl) <| rl_nil <| run_seq <| run_region <| rl_v rfl rfl rfl (ov_move rfl rfl) <| rl_v rfl rfl rfl (ov_move rfl rfl) <| rl_v rfl rfl rfl (ov_mulU rfl rfl rfl (by omega)) ?_
 refine rl_v rfl rfl rfl (ov_assign rfl rfl) <| rl_nil <| run_ret Tryz.func131 (res2 Tryz.results131 rfl rfl) ?_
 exact ⟨key _ _ (by rw [e0, e1, e2, e3]; omega), hO0.below⟩
theorem mulR_any (x y : Int) (w : World) (hx : 0 ≤ x ∧ x < 4294967296) (hy : 0 ≤ y ∧ y < 4294967296) :
  Calls Tryz.prog 114 #[.int .u64 x, .int .u64 y] w fun e w' => e = .returned (.tuple #[.int .u64 0, .int .u64 (x * y)]) ∧ Below w.heap.size w w' := by
 refine calls_of_run (F := [(0, _), (1, _)]) Tryz.func114 rfl Tryz.ntmps114 rfl rfl ?_
 have hO0 := Own.init w
 refine run_seq <| run_region <| rl_v rfl rfl rfl (ov_assign rfl rfl) <| rl_v rfl rfl rfl (ov_assign rfl rfl) <| rl_nil <| run_seq <| run_cond_f rfl <| run_skip <| run_seq <| run_region <| rl_v rfl rfl rfl (ov_move rfl rfl) <| rl_v rfl rfl rfl (ov_move rfl rfl) ?_
 refine rl_call callable_131 rfl rfl rfl rfl rfl rfl (mul64R_any x y _ hx hy) (fun e1 w2 hp3 => ?_)
 obtain ⟨rfl, hb⟩ := hp3
 refine ⟨_, rfl, ?_⟩
 have hO4 := hO0.past hb
 refine rl_v rfl rfl rfl (ov_move rfl rfl) <| rl_v rfl rfl rfl (ov_extract rfl rfl (by rfl)) ?_
 refine rl_v rfl rfl rfl (ov_extract rfl rfl (by rfl)) ?_
 refine rl_v rfl rfl rfl (ov_assign rfl rfl) <| rl_v rfl rfl rfl (ov_assign rfl rfl) <| rl_nil <| run_seq <| run_region <| rl_v rfl rfl rfl (ov_move rfl rfl) <| rl_v rfl rfl rfl (ov_move rfl rfl) <| rl_v rfl rfl rfl (ov_assign rfl rfl) <| rl_v rfl rfl rfl (ov_assign rfl rfl) <| rl_nil <| run_ret Tryz.func114 (res2 Tryz.results114 rfl rfl) ?_
 exact ⟨rfl, hO4.below⟩
theorem repeatR_any (ao : Option Addr) (c m : Nat) (x : Int) (w : World) (hm : 1 ≤ m) (hm2 : m ≤ 1000000)
  (h : IAt w.heap.size w ao 1 (fun _ => .int .i64 x)) :
  Calls Tryz.prog 78 #[.slice ao 1 c, .int .i64 m] w fun e w' =>
   ∃ b, e = .returned (.slice (some ⟨b, 0, none⟩) m m) ∧ Own w.heap.size w w' [some (vch b 3 m (fun _ => .int .i64 x))] := by
 obtain ⟨gb, go, hga, hrow⟩ := h.open
 have ew : IntKind.u64.wrap (m : Int) = m := IntWalk.u64_in _ (by omega)
 obtain rfl := hga (by omega)
 have ew1 : IntKind.u64.wrap ((1 : Nat) : Int) * IntKind.u64.wrap (m : Int) = m := by
  rw [ew, show IntKind.u64.wrap ((1 : Nat) : Int) = 1 from IntWalk.u64_in _ (by omega), Int.one_mul]
 have ei : IntKind.i64.wrap (IntKind.u64.wrap ((1 : Nat) : Int) * IntKind.u64.wrap (m : Int)) = m := by rw [ew1]; exact IntWalk.i64_in _ (by omega)
 refine calls_of_run (F := [(0, _), (1, _)]) Tryz.func78 rfl Tryz.ntmps78 rfl rfl ?_
 have hO0 := Own.init w
 refine run_seq <| run_region <| rl_v rfl rfl rfl (ov_assign rfl rfl) <| rl_nil <| run_seq <| run_seq <| run_region <| rl_v rfl rfl rfl (ov_move rfl rfl) <| rl_v rfl rfl rfl (ov_lss rfl rfl rfl) <| rl_nil ?_
 first | refine run_cond_dec rfl (fun h1 => ?_) (fun h1 => ?_) | refine run_cond rfl (fun h1 => ?_) (fun h1 => ?_)
 ·exfalso; omega
 ·refine run_skip <| run_seq <| run_region <| rl_v rfl rfl rfl (ov_move rfl rfl) <| rl_v rfl rfl rfl (ov_len rfl Tryz.underlying23 rfl) <| rl_v rfl rfl rfl (ov_conv rfl Tryz.underlying3 Tryz.underlying49 rfl) <| rl_v rfl rfl rfl (ov_move rfl rfl) <| rl_v rfl rfl rfl (ov_conv rfl Tryz.underlying3 Tryz.underlying49 rfl) ?_
  refine rl_call callable_114 rfl rfl rfl rfl rfl rfl (mulR_any _ _ _ ⟨by decide, by decide⟩ ⟨by rw [ew]; omega, by rw [ew]; omega⟩) (fun e1 w2 hp3 => ?_)
  obtain ⟨rfl, hb⟩ := hp3
  refine ⟨_, rfl, ?_⟩
  have hO4 := hO0.past hb
  refine rl_v rfl rfl rfl (ov_move rfl rfl) <| rl_v rfl rfl rfl (ov_extract rfl rfl (by rfl)) ?_
  refine rl_v rfl rfl rfl (ov_extract rfl rfl (by rfl)) ?_
  refine rl_v rfl rfl rfl (ov_assign rfl rfl) <| rl_v rfl rfl rfl (ov_assign rfl rfl) <| rl_nil <| run_seq <| run_seq <| run_region <| rl_v rfl rfl rfl (ov_move rfl rfl) <| rl_v rfl rfl rfl (ov_gtr rfl rfl rfl) <| rl_v rfl rfl rfl (ov_move rfl rfl) ?_
  first | refine rl_split_dec 23 rfl (fun hg5 => ?_) (fun hg5 => ?_) | refine rl_split 23 rfl (fun hg5 => ?_) (fun hg5 => ?_)
  ·refine rl_gskip rfl rfl rfl rfl rfl rfl <| rl_gskip rfl rfl rfl rfl rfl rfl <| rl_v rfl rfl rfl (ov_pick_t rfl rfl rfl) <| rl_nil <| run_cond_t rfl ?_
   exfalso; omega
  ·refine rl_gv rfl rfl rfl rfl rfl (ov_move rfl rfl) <| rl_gv rfl rfl rfl rfl rfl (ov_gtr rfl rfl rfl) <| rl_v rfl rfl rfl (ov_pick_f rfl rfl rfl) <| rl_nil ?_
   first | refine run_cond_dec rfl (fun h3 => ?_) (fun h3 => ?_) | refine run_cond rfl (fun h3 => ?_) (fun h3 => ?_)
   ·exfalso; omega
   ·refine run_skip <| run_seq <| run_region <| rl_v rfl rfl rfl (ov_move rfl rfl) <| rl_v rfl rfl rfl (ov_conv rfl Tryz.underlying49 Tryz.underlying3 rfl) ?_
    refine rl_make (m) rfl rfl rfl rfl Tryz.underlying23 info_3 rfl hO4 rfl rfl (by omega) (by omega) ⟨by omega, by omega⟩ (fun b w6 hO7 hs8 => ?_)
    refine rl_v rfl rfl rfl (ov_assign rfl rfl) <| rl_nil <| run_seq <| run_region <| rl_v rfl rfl rfl (ov_move rfl rfl) <| rl_v rfl rfl rfl (ov_move rfl rfl) <| rl_ow rfl (ow_copy (1) rfl rfl rfl Tryz.underlying23 (by kernel_rfl) hO7 0 rfl rfl rfl (by omega) (by omega) (fun i h0 hi => hrow _ hO7.below i h0 (by omega)) (fun _ => rfl)) ?_
    rintro _ w9 ⟨rfl, hO10, hs11⟩
    refine rl_v rfl rfl rfl (ov_assign rfl rfl) <| rl_nil <| run_seq <| run_block <| Run.keep [7, 8] (F' := [(7, _), (8, _)]) rfl <| run_loop2 (fun (k : Int) (G : Int → Value) => [(8, .int .i64 k)]) [7] (fun (k : Int) (G : Int → Value) (w12 : World) => 1 ≤ k ∧ k ≤ m ∧ (∀ i : Int, 0 ≤ i → i < k → G i = .int .i64 x) ∧ (∀ i, (G i).oneCell' = true) ∧ Own w.heap.size w w12 [some (vch b 3 m G)]) (fun (k : Int) (G : Int → Value) => ((m : Int) - k).toNat) (1) (fun j => if ((0 : Nat) : Int) ≤ j ∧ j < ((0 : Nat) : Int) + ((1 : Nat) : Int) then .int .i64 x else .int .i64 0) ?_ (And.intro (by exact slot_int rfl (by first | omega)) (And.intro rfl trivial)) ?_
    ·exact ⟨by omega, by omega, fun i h0 h1 => if_pos (by omega), fun i => by (dsimp only; split <;> rfl), hO10⟩
    intro k G w12 hIw12 ih13
    obtain ⟨hk0, hk1, hG, hG1, hO⟩ := hIw12
    show Run _ _ _ _ [(8, _), (7, _)] _ _
    refine run_seq <| run_seq <| run_region <| rl_v rfl rfl rfl (ov_move rfl rfl) <| rl_v rfl rfl rfl (ov_move rfl rfl) <| rl_v rfl rfl rfl (ov_len rfl Tryz.underlying23 rfl) <| rl_v rfl rfl rfl (ov_lss rfl rfl rfl) <| rl_nil ?_
    first | refine run_cond_dec rfl (fun h5 => ?_) (fun h5 => ?_) | refine run_cond rfl (fun h5 => ?_) (fun h5 => ?_)
    ·refine run_skip <| run_block <| run_held (fun w' => Own w.heap.size w w' ([none])) mixed ?_
     have hO15 := hO.drew
     generalize World.drew w12 = w14 at hO15 ⊢
     have hS16 : Own w.heap.size w w14 ([none]) := by exact ⟨hO15.below, hO15.hB, by simp, by simp, by simp⟩
     refine rh_v 0 rfl (by kernel_rfl) rfl rfl rfl hS16 (fun _ hS => ov_move rfl rfl) ?_
     refine rh_v 1 rfl (by kernel_rfl) rfl rfl rfl hS16 (fun _ hS => ov_move rfl rfl) ?_
     refine rh_v 2 rfl (by kernel_rfl) rfl rfl rfl hS16 (fun _ hS => ov_move rfl rfl) ?_
     refine rh_v 3 rfl (by kernel_rfl) rfl rfl rfl hS16 (fun _ hS => ov_sliceL rfl Tryz.underlying23 (by kernel_rfl) (s := 1) rfl rfl ⟨by omega, by omega⟩ (by omega) rfl) ?_
     refine rh_v 4 rfl (by kernel_rfl) rfl rfl rfl hS16 (fun _ hS => ov_move rfl rfl) ?_
     refine rh_v 5 rfl (by kernel_rfl) rfl rfl rfl hS16 (fun _ hS => ov_move rfl rfl) ?_
     refine rh_v 6 rfl (by kernel_rfl) rfl rfl rfl hS16 (fun _ hS => ov_sliceH (k.toNat) (s := 1) rfl Tryz.underlying23 (by kernel_rfl) rfl rfl (by omega) (by omega)) ?_
     refine rh_any1 7 (by kernel_rfl) ?_
     refine rc_op rfl rfl (ow_copy ((min k.toNat (m - k.toNat))) rfl rfl rfl Tryz.underlying23 (by kernel_rfl) hO15 0 rfl rfl rfl (by rfl) (by omega) (fun i h0 hi => hO15.cellI 0 rfl i h0 (by omega)) (hG1)) ?_
     rintro _ w17 ⟨rfl, hO18, hs19⟩
     have hS20 : Own w.heap.size w w17 ([none]) := by exact ⟨hO18.below, hO18.hB, by simp, by simp, by simp⟩
     refine ⟨hS20, ?_⟩
     refine rh_v 8 rfl (by kernel_rfl) rfl rfl rfl hS20 (fun _ hS => ov_add rfl rfl rfl (by omega)) ?_
     refine rh_v 9 rfl (by kernel_rfl) rfl rfl rfl hS20 (fun _ hS => ov_assign rfl rfl) ?_
     refine rh_done (by kernel_rfl) ?_
     refine run_inBlock ?_
     refine Run.use (ih13 (k + ((min k.toNat (m - k.toNat) : Nat) : Int)) (fun j => if (((0 + k.toNat * 1 : Nat) : Int)) ≤ j ∧ j < ((0 + k.toNat * 1 : Nat) : Int) + ((min k.toNat (m - k.toNat) : Nat) : Int) then G (j - ((0 + k.toNat * 1 : Nat) : Int)) else G j) _ ?_ ?_) (And.intro (by exact slot_int rfl (by first | omega)) (And.intro rfl trivial))
     ·first | omega | (dsimp only; omega)
     ·exact ⟨by omega, by omega, fun i h0 h1 => by split; exact hG _ (by omega) (by omega); exact hG _ (by omega) (by omega), fun i => by split <;> exact hG1 _, hO18⟩
    ·refine run_exit rfl <| run_seq <| run_region <| rl_v rfl rfl rfl (ov_move rfl rfl) <| rl_v rfl rfl rfl (ov_assign rfl rfl) <| rl_nil <| run_ret Tryz.func78 (res1 Tryz.results78 rfl) ?_
     exact ⟨b, rfl, hO.congrI 0 rfl (fun i h0 hi => hG i h0 (by omega))⟩
theorem repeatR0_any (ao : Option Addr) (c : Nat) (x : Int) (w : World)
  (h : IAt w.heap.size w ao 1 (fun _ => .int .i64 x)) :
  Calls Tryz.prog 78 #[.slice ao 1 c, .int .i64 0] w fun e w' =>
   ∃ b, e = .returned (.slice (some ⟨b, 0, none⟩) 0 0) ∧ Own w.heap.size w w' [some (vch b 3 0 (fun _ => .int .i64 x))] := by
 obtain ⟨gb, go, hga, hrow⟩ := h.open
 obtain rfl := hga (by omega)
 have ew1 : IntKind.u64.wrap ((1 : Nat) : Int) * IntKind.u64.wrap 0 = 0 := by
  rw [show IntKind.u64.wrap ((1 : Nat) : Int) = 1 from IntWalk.u64_in _ (by omega), show IntKind.u64.wrap 0 = 0 from IntWalk.u64_in _ (by omega)]; rfl
 have ei : IntKind.i64.wrap (IntKind.u64.wrap ((1 : Nat) : Int) * IntKind.u64.wrap 0) = 0 := by rw [ew1]; exact IntWalk.i64_in _ (by omega)
 refine calls_of_run (F := [(0, _), (1, _)]) Tryz.func78 rfl Tryz.ntmps78 rfl rfl ?_
 have hO0 := Own.init w
 refine run_seq <| run_region <| rl_v rfl rfl rfl (ov_assign rfl rfl) <| rl_nil <| run_seq <| run_seq <| run_region <| rl_v rfl rfl rfl (ov_move rfl rfl) <| rl_v rfl rfl rfl (ov_lss rfl rfl rfl) <| rl_nil ?_
 first | refine run_cond_dec rfl (fun h1 => ?_) (fun h1 => ?_) | refine run_cond rfl (fun h1 => ?_) (fun h1 => ?_)
 ·exfalso; omega
 ·refine run_skip <| run_seq <| run_region <| rl_v rfl rfl rfl (ov_move rfl rfl) <| rl_v rfl rfl rfl (ov_len rfl Tryz.underlying23 rfl) <| rl_v rfl rfl rfl (ov_conv rfl Tryz.underlying3 Tryz.underlying49 rfl) <| rl_v rfl rfl rfl (ov_move rfl rfl) <| rl_v rfl rfl rfl (ov_conv rfl Tryz.underlying3 Tryz.underlying49 rfl) ?_
  refine rl_call callable_114 rfl rfl rfl rfl rfl rfl (mulR_any _ _ _ ⟨by decide, by decide⟩ ⟨by decide, by decide⟩) (fun e1 w2 hp3 => ?_)
  obtain ⟨rfl, hb⟩ := hp3
  refine ⟨_, rfl, ?_⟩
  have hO4 := hO0.past hb
  refine rl_v rfl rfl rfl (ov_move rfl rfl) <| rl_v rfl rfl rfl (ov_extract rfl rfl (by rfl)) ?_
  refine rl_v rfl rfl rfl (ov_extract rfl rfl (by rfl)) ?_
  refine rl_v rfl rfl rfl (ov_assign rfl rfl) <| rl_v rfl rfl rfl (ov_assign rfl rfl) <| rl_nil <| run_seq <| run_seq <| run_region <| rl_v rfl rfl rfl (ov_move rfl rfl) <| rl_v rfl rfl rfl (ov_gtr rfl rfl rfl) <| rl_v rfl rfl rfl (ov_move rfl rfl) ?_
  first | refine rl_split_dec 23 rfl (fun hg5 => ?_) (fun hg5 => ?_) | refine rl_split 23 rfl (fun hg5 => ?_) (fun hg5 => ?_)
  ·refine rl_gskip rfl rfl rfl rfl rfl rfl <| rl_gskip rfl rfl rfl rfl rfl rfl <| rl_v rfl rfl rfl (ov_pick_t rfl rfl rfl) <| rl_nil <| run_cond_t rfl ?_
   exfalso; omega
  ·refine rl_gv rfl rfl rfl rfl rfl (ov_move rfl rfl) <| rl_gv rfl rfl rfl rfl rfl (ov_gtr rfl rfl rfl) <| rl_v rfl rfl rfl (ov_pick_f rfl rfl rfl) <| rl_nil ?_
   first | refine run_cond_dec rfl (fun h3 => ?_) (fun h3 => ?_) | refine run_cond rfl (fun h3 => ?_) (fun h3 => ?_)
   ·exfalso; omega
   ·refine run_skip <| run_seq <| run_region <| rl_v rfl rfl rfl (ov_move rfl rfl) <| rl_v rfl rfl rfl (ov_conv rfl Tryz.underlying49 Tryz.underlying3 rfl) ?_
    refine rl_make (0) rfl rfl rfl rfl Tryz.underlying23 info_3 rfl hO4 rfl rfl (by rfl) (by rfl) ⟨by omega, by omega⟩ (fun b w6 hO7 hs8 => ?_)
    refine rl_v rfl rfl rfl (ov_assign rfl rfl) <| rl_nil <| run_seq <| run_region <| rl_v rfl rfl rfl (ov_move rfl rfl) <| rl_v rfl rfl rfl (ov_move rfl rfl) <| rl_ow rfl (ow_copy (0) rfl rfl rfl Tryz.underlying23 (by kernel_rfl) hO7 0 rfl rfl rfl (by rfl) (by omega) (fun i h0 hi => hrow _ hO7.below i h0 (by omega)) (fun _ => rfl)) ?_
    rintro _ w9 ⟨rfl, hO10, hs11⟩
    refine rl_v rfl rfl rfl (ov_assign rfl rfl) <| rl_nil <| run_seq <| run_block <| run_once <| run_seq <| run_seq <| run_region <| rl_v rfl rfl rfl (ov_move rfl rfl) <| rl_v rfl rfl rfl (ov_move rfl rfl) <| rl_v rfl rfl rfl (ov_len rfl Tryz.underlying23 rfl) <| rl_v rfl rfl rfl (ov_lss rfl rfl rfl) <| rl_nil ?_
    first | refine run_cond_dec rfl (fun h5 => ?_) (fun h5 => ?_) | refine run_cond rfl (fun h5 => ?_) (fun h5 => ?_)
    ·exfalso; omega
    ·refine run_exit rfl <| run_seq <| run_region <| rl_v rfl rfl rfl (ov_move rfl rfl) <| rl_v rfl rfl rfl (ov_assign rfl rfl) <| rl_nil <| run_ret Tryz.func78 (res1 Tryz.results78 rfl) ?_
     exact ⟨b, rfl, hO10.congrI 0 rfl fun i i0 i1 => by omega⟩
theorem repeatR'_any (ao : Option Addr) (c m : Nat) (x : Int) (w : World) (hm2 : m ≤ 1000000) (h : IAt w.heap.size w ao 1 (fun _ => .int .i64 x)) :
  Calls Tryz.prog 78 #[.slice ao 1 c, .int .i64 m] w fun e w' =>
   ∃ b, e = .returned (.slice (some ⟨b, 0, none⟩) m m) ∧ Own w.heap.size w w' [some (vch b 3 m (fun _ => .int .i64 x))] := by
 by_cases e : m = 0
 ·subst e; exact repeatR0_any ao c x w h
 ·exact repeatR_any ao c m x w (by omega) hm2 h
end Go.Proofs.YtlldeifbfpmbaaaGreat
set_option maxRecDepth 100000
namespace Go.Proofs.YtlldeifbfpmbaaaGreat
open Go.RowKit Go.Proofs Go.MapKept
theorem IRow.cutF {ao : Option Addr} {m cap : Nat} {E : TypeId} {n k : Nat} {G : Int → Value} {c : Option Blk} (h : IRow (.slice ao m cap) E n G c) (hk : k ≤ n) : IRow (.slice ao k cap) E k G c := by
 rcases h with ⟨q1, q0, q2⟩ | ⟨hb, cap', g, q1, q2, q3, q4, q5⟩
 ·cases q1
  obtain rfl : k = 0 := by omega
  exact .inl ⟨rfl, rfl, q2⟩
 ·cases q1
  exact .inr ⟨hb, cap, g, rfl, by omega, q3, q4, fun i hi => q5 i (by omega)⟩
theorem IRow.capF {ao : Option Addr} {m cap : Nat} {E : TypeId} {n : Nat} {G : Int → Value} {c : Option Blk} (h : IRow (.slice ao m cap) E n G c) : n ≤ cap := by
 rcases h with ⟨q1, q0, q2⟩ | ⟨hb, cap', g, q1, q2, q3, q4, q5⟩
 ·cases q1; omega
 ·cases q1; exact q2
structure Cw where
 cb : Nat
 mb : Nat
 sv : Value
 c : Option Blk
 n : Nat
 P : Int → Int
 A : Int → Int
def crB (x : Cw) : Option Blk := some (lch x.cb 139 [.map (some x.mb), x.sv])
def crBs (x : Cw) : List (Option Blk) := [x.c, crB x]
def fam (K : Nat → Cw) (m : Nat) : List (Option Blk) := (List.range m).flatMap fun b => crBs (K b)
def famR (K : Nat → Cw) (m b : Nat) : List (Option Blk) := ((List.range m).erase b).flatMap fun b => crBs (K b)
def updK (K : Nat → Cw) (b : Nat) (x : Cw) : Nat → Cw := fun c => if c = b then x else K c
theorem updK_same (K : Nat → Cw) (b : Nat) (x : Cw) : updK K b x b = x := if_pos rfl
theorem updK_ne (K : Nat → Cw) {b c : Nat} (x : Cw) (h : c ≠ b) : updK K b x c = K c := if_neg h
theorem fam_succ (K : Nat → Cw) (m : Nat) : fam K (m + 1) = fam K m ++ crBs (K m) := by
 unfold fam
 rw [List.range_succ, List.flatMap_append]
 simp
theorem fam_perm (K : Nat → Cw) {m b : Nat} (hb : b < m) : (fam K m).Perm ((K b).c :: crB (K b) :: famR K m b) :=
 (List.perm_cons_erase (List.mem_range.2 hb)).flatMap_right _
theorem famR_upd (K : Nat → Cw) (m b : Nat) (x : Cw) : famR (updK K b x) m b = famR K m b := by
 unfold famR
 simp only [List.flatMap_def]
 congr 1
 refine List.map_congr_left fun c hc => ?_
 have : c ≠ b := fun e => by rw [e] at hc; exact (List.Nodup.not_mem_erase List.nodup_range) hc
 rw [updK_ne _ _ this]
theorem perm_front2 {α : Type} {x y a b c d : α} {M M' : List α} (h : M.Perm (x :: y :: M')) : (a :: b :: c :: d :: M).Perm (x :: y :: a :: b :: c :: d :: M') :=
 (h.append_left [a, b, c, d]).trans ((List.perm_append_comm (l₁ := [a, b, c, d]) (l₂ := [x, y])).append_right M')
theorem Own.crew {B : Nat} {w0 w : World} {a b c d : Option Blk} {K : Nat → Cw} {m i : Nat} (h : Own B w0 w (a :: b :: c :: d :: fam K m)) (hi : i < m) : Own B w0 w ((K i).c :: crB (K i) :: a :: b :: c :: d :: famR K m i) := h.perm (perm_front2 (fam_perm K hi))
theorem Own.crewBack {B : Nat} {w0 w : World} {a b c d : Option Blk} {K : Nat → Cw} {m i : Nat} {x : Cw} (h : Own B w0 w (x.c :: crB x :: a :: b :: c :: d :: famR K m i)) (hi : i < m) : Own B w0 w (a :: b :: c :: d :: fam (updK K i x) m) := by
 refine h.perm (perm_front2 ?_).symm
 have := fam_perm (updK K i x) hi
 rw [famR_upd, updK_same] at this
 exact this
structure CwOk (f : Fair) (l : Int → Int) (b : Int) (x : Cw) : Prop where
 hp : HP x.n x.P x.A
 ch : CH (rkL (f.be b) (f.bl b)) x.n x.P x.A
 ct : Cont f.n x.n x.P x.A (fun g => if l g = b then f.rb b g + 1 else 0)
 cn : (x.n : Int) = f.cnt l b
 row : IRow x.sv 3 x.n (crG x.P) x.c
theorem cont_congr {N n : Int} {P A S S' : Int → Int} (h : Cont N n P A S) (e : ∀ i : Int, 0 ≤ i → i < N → S i = S' i) : Cont N n P A S' :=
 ⟨fun k k0 k1 => by have := h.at_ k k0 k1; rw [← e _ this.1.1 this.1.2]; exact this, h.inj, fun i i0 i1 hi => h.all i i0 i1 (by rw [e i i0 i1]; exact hi)⟩
section
variable {f : Fair} {l : Int → Int} {b : Int} {x : Cw}
theorem CwOk.mem (h : CwOk f l b x) {k : Int} (k0 : 0 ≤ k) (k1 : k < x.n) : (0 ≤ x.P k ∧ x.P k < f.n) ∧ l (x.P k) = b ∧ x.A k = f.rb b (x.P k) + 1 := by
 obtain ⟨h1, h2, h3⟩ := h.ct.at_ k k0 k1
 by_cases e : l (x.P k) = b
 ·rw [if_pos e] at h2; exact ⟨h1, e, h2⟩
 ·rw [if_neg e] at h2; omega
theorem CwOk.find (h : CwOk f l b x) {g : Int} (g0 : 0 ≤ g) (g1 : g < f.n) (hg : l g = b) : ∃ k : Int, 0 ≤ k ∧ k < x.n ∧ x.P k = g := by
 refine h.ct.all g g0 g1 ?_
 have := (rk_rng (f.be b) g (f.bl b)).1
 rw [if_pos hg]
 unfold Fair.rb
 omega
theorem CwOk.other (h : CwOk f l b x) {l' : Int → Int} (e : ∀ g : Int, 0 ≤ g → g < f.n → (l' g = b ↔ l g = b)) : CwOk f l' b x := by
 refine ⟨h.hp, h.ch, cont_congr h.ct fun g g0 g1 => ?_, by rw [h.cn]; exact (Fair.cnt_congr e).symm, h.row⟩
 by_cases c : l g = b
 ·rw [if_pos c, if_pos ((e g g0 g1).2 c)]
 ·rw [if_neg c, if_neg fun c2 => c ((e g g0 g1).1 c2)]
theorem CwOk.chPush (hf : f.Ok) (h : CwOk f l b x) (b0 : 0 ≤ b) (b1 : b < f.m) (hbl : f.bl b ≤ 64) {g : Int} (hk : f.know g b) (hkn : ∀ i : Int, 0 ≤ i → i < f.n → l i = b → f.know i b) : CH (rkL (f.be b) (f.bl b)) ((x.n + 1 : Nat) : Int) (upd x.P x.n g) (upd x.A x.n (f.rb b g + 1)) := by
 have hlk : ∀ i : Int, f.know i b → lkp (rkL (f.be b) (f.bl b)) i = some (iv (f.rb b i)) := fun i hi => by
  rw [rkL_lkp (hf.bd b b0 b1), if_pos (show rk (f.be b) (f.bl b) i < f.bl b from hi.2)]; rfl
 have hr0 := (rk_rng (f.be b) g (f.bl b)).1
 have hk2 := hk.2
 refine ⟨fun k k0 k1 => ?_, fun k j k0 k1 j0 j1 e => ?_⟩
 ·by_cases c : k = x.n
  ·rw [c, upd_same, upd_same, hlk g hk]
   unfold Fair.rb at hk2 ⊢
   exact ⟨by rw [Int.add_sub_cancel], by omega, by omega⟩
  ·rw [upd_ne _ _ c, upd_ne _ _ c]; exact h.ch.rk k k0 (by omega)
 ·have key : ∀ j : Int, 0 ≤ j → j < x.n → x.A j = f.rb b g + 1 → x.P j = g := fun j j0 j1 e => by
   obtain ⟨p1, p2, p3⟩ := h.mem j0 j1
   exact (Fair.rb_inj hk.2 (by omega)).symm
  by_cases c : k = x.n <;> by_cases d : j = x.n
  ·rw [c, d]
  ·rw [c, upd_same, upd_ne _ _ d] at e ⊢
   exact (key j j0 (by omega) e.symm).symm
  ·rw [d, upd_same, upd_ne _ _ c] at e ⊢
   exact key k k0 (by omega) e
  ·rw [upd_ne _ _ c, upd_ne _ _ d] at e ⊢
   exact h.ch.inj k j k0 (by omega) j0 (by omega) e
end
end Go.Proofs.YtlldeifbfpmbaaaGreat
