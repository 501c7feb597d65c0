import Derived.Test.YteagflekbbchhaaReS
set_option maxRecDepth 100000
namespace Go.Proofs.Yteagflekbbchhaa
open Go.RowKit Go.Proofs
theorem node_nil (n : Int) (B : Nat) (H : List (Option Blk)) (w0 w : World) (hO : Own B w0 w H) :
  Calls Try.prog 58 #[.pointer none, iv n] w fun e w' => e = .returned (.tuple #[.nilIface, iv 3]) ∧ Own B w0 w' H := by
 refine calls_of_run (F := [(0, _), (1, _)]) Try.func58 rfl Try.ntmps58 rfl rfl <| run_seq <| run_region <| rl_v rfl rfl rfl (ov_assign rfl rfl) <| rl_v rfl rfl rfl (ov_assign rfl rfl) <| rl_nil <| run_seq <| run_seq <| run_region <| rl_v rfl rfl rfl (ov_move rfl rfl) <| rl_v rfl rfl rfl (ov_ptrnil rfl Try.underlying27 rfl) <| rl_nil <| run_cond_t rfl <| run_seq <| run_region <| rl_v rfl rfl rfl (ov_assign rfl rfl) <| rl_v rfl rfl rfl (ov_assign rfl rfl) <| rl_nil <| run_ret Try.func58 (res2 Try.results58 rfl rfl) ?_
 exact ⟨rfl, hO⟩
theorem bag_nil (B : Nat) (H : List (Option Blk)) (w0 w : World) (hO : Own B w0 w H) :
  Calls Try.prog 38 #[.pointer none] w fun e w' => e = .returned (.slice none 0 0) ∧ Own B w0 w' H := by
 refine calls_of_run (F := [(0, _)]) Try.func38 rfl Try.ntmps38 rfl rfl <| run_seq <| run_region <| rl_v rfl rfl rfl (ov_assign rfl rfl) <| rl_nil <| run_seq <| run_seq <| run_region <| rl_v rfl rfl rfl (ov_move rfl rfl) <| rl_v rfl rfl rfl (ov_ptrnil rfl Try.underlying27 rfl) <| rl_nil <| run_cond_t rfl <| run_seq <| run_region <| rl_v rfl rfl rfl (ov_assign rfl rfl) <| rl_nil <| run_ret Try.func38 (res1 Try.results38 rfl) ?_
 exact ⟨rfl, hO⟩
theorem deals_nil (B : Nat) (H : List (Option Blk)) (w0 w : World) (hO : Own B w0 w H) :
  Calls Try.prog 22 #[.pointer none] w fun e w' => e = .returned (.slice none 0 0) ∧ Own B w0 w' H := by
 refine calls_of_run (F := [(0, _)]) Try.func22 rfl Try.ntmps22 rfl rfl <| run_seq <| run_region <| rl_v rfl rfl rfl (ov_assign rfl rfl) <| rl_nil <| run_seq <| run_seq <| run_region <| rl_v rfl rfl rfl (ov_move rfl rfl) <| rl_v rfl rfl rfl (ov_ptrnil rfl Try.underlying27 rfl) <| rl_nil <| run_cond_t rfl <| run_seq <| run_region <| rl_v rfl rfl rfl (ov_assign rfl rfl) <| rl_nil <| run_ret Try.func22 (res1 Try.results22 rfl) ?_
 exact ⟨rfl, hO⟩
theorem heal_nil (n : Int) (B : Nat) (H : List (Option Blk)) (w0 w : World) (hO : Own B w0 w H) :
  Calls Try.prog 18 #[.pointer none, iv n] w fun e w' => e = .returned (.tuple #[iv 0, iv 3]) ∧ Own B w0 w' H := by
 refine calls_of_run (F := [(0, _), (1, _)]) Try.func18 rfl Try.ntmps18 rfl rfl <| run_seq <| run_region <| rl_v rfl rfl rfl (ov_assign rfl rfl) <| rl_v rfl rfl rfl (ov_assign rfl rfl) <| rl_nil <| run_seq <| run_seq <| run_region <| rl_v rfl rfl rfl (ov_move rfl rfl) <| rl_v rfl rfl rfl (ov_ptrnil rfl Try.underlying27 rfl) <| rl_nil <| run_cond_t rfl <| run_seq <| run_region <| rl_v rfl rfl rfl (ov_assign rfl rfl) <| rl_v rfl rfl rfl (ov_assign rfl rfl) <| rl_nil <| run_ret Try.func18 (res2 Try.results18 rfl rfl) ?_
 exact ⟨rfl, hO⟩
theorem fork_nil (B : Nat) (H : List (Option Blk)) (w0 w : World) (hO : Own B w0 w H) :
  Calls Try.prog 46 #[.pointer none] w fun e w' => e = .returned (.pointer none) ∧ Own B w0 w' H := by
 refine calls_of_run (F := [(0, _)]) Try.func46 rfl Try.ntmps46 rfl rfl <| run_seq <| run_region <| rl_v rfl rfl rfl (ov_assign rfl rfl) <| rl_nil <| run_seq <| run_seq <| run_region <| rl_v rfl rfl rfl (ov_move rfl rfl) <| rl_v rfl rfl rfl (ov_ptrnil rfl Try.underlying27 rfl) <| rl_nil <| run_cond_t rfl <| run_seq <| run_region <| rl_v rfl rfl rfl (ov_assign rfl rfl) <| rl_nil <| run_ret Try.func46 (res1 Try.results46 rfl) ?_
 exact ⟨rfl, hO⟩
theorem begin_nil (d : Dl) (B : Nat) (H : List (Option Blk)) (w0 w : World) (hO : Own B w0 w H) :
  Calls Try.prog 17 #[.pointer none, .agg (dll d).toArray] w fun e w' => e = .returned (.tuple #[iv 0, iv 3]) ∧ Own B w0 w' H := by
 refine calls_of_run (F := [(0, _), (1, _)]) Try.func17 rfl Try.ntmps17 rfl rfl <| run_seq <| run_region <| rl_ow rfl (ow_box _ rfl rfl rfl rfl rfl hO) ?_
 rintro _ w1 ⟨b2, rfl, hO2, hs3⟩
 refine rl_ow rfl (ow_box _ rfl rfl rfl rfl rfl hO2) ?_
 rintro _ w4 ⟨b3, rfl, hO5, hs6⟩
 refine rl_v rfl rfl rfl (ov_assign rfl rfl) <| rl_v rfl rfl rfl (ov_assign rfl rfl) <| rl_nil <| run_seq <| run_seq <| run_region <| rl_v rfl rfl rfl (ov_load rfl Try.underlying27 rfl rfl (by exact hO5.cellL 1 rfl rfl)) ?_
 refine rl_v rfl rfl rfl (ov_ptrnil rfl Try.underlying27 rfl) <| rl_nil <| run_cond_t rfl <| run_seq <| run_region <| rl_v rfl rfl rfl (ov_assign rfl rfl) <| rl_v rfl rfl rfl (ov_assign rfl rfl) <| rl_nil <| run_ret Try.func17 (res2 Try.results17 rfl rfl) ?_
 exact ⟨rfl, hO5.tail.tail⟩
theorem message_nil (n : Int) (B : Nat) (H : List (Option Blk)) (w0 w : World) (hO : Own B w0 w H) :
  Calls Try.prog 71 #[.pointer none, iv n] w fun e w' => e = .returned (.tuple #[.agg (msl Ms.z).toArray, iv 3]) ∧ Own B w0 w' H := by
 refine calls_of_run (F := [(0, _), (1, _)]) Try.func71 rfl Try.ntmps71 rfl rfl <| run_seq <| run_region <| rl_ow rfl (ow_alloc _ rfl rfl rfl zero_87 rfl hO) ?_
 rintro _ w1 ⟨b4, rfl, hO2, hs3⟩
 refine rl_v rfl rfl rfl (ov_assign rfl rfl) <| rl_nil <| run_seq <| run_seq <| run_region <| rl_v rfl rfl rfl (ov_move rfl rfl) <| rl_v rfl rfl rfl (ov_ptrnil rfl Try.underlying27 rfl) <| rl_nil <| run_cond_t rfl <| run_seq <| run_region <| rl_v rfl rfl rfl (ov_buildL rfl lay_87 rfl (us := [_, _, _, _]) rfl) <| rl_ow rfl (ow_storeW rfl rfl (by kernel_rfl) hO2 0 rfl rfl (by rfl) rfl (by rfl)) ?_
 rintro _ w4 ⟨rfl, hO5, hs6⟩
 refine rl_v rfl rfl rfl (ov_assign rfl rfl) <| rl_nil <| run_ret Try.func71 (resW2 Try.results71 rfl rfl Try.underlying87 rfl (by kernel_rfl) hO5 0 rfl) ?_
 exact ⟨rfl, hO5.tail⟩
theorem site_nil (n : Int) (B : Nat) (H : List (Option Blk)) (w0 w : World) (hO : Own B w0 w H) :
  Calls Try.prog 51 #[.pointer none, iv n] w fun e w' => e = .returned (.tuple #[.pointer none, iv 3]) ∧ Own B w0 w' H := by
 refine calls_of_run (F := [(0, _), (1, _)]) Try.func51 rfl Try.ntmps51 rfl rfl <| run_seq <| run_region <| rl_v rfl rfl rfl (ov_assign rfl rfl) <| rl_v rfl rfl rfl (ov_assign rfl rfl) <| rl_nil <| run_seq <| run_region <| rl_v rfl rfl rfl (ov_move rfl rfl) <| rl_v rfl rfl rfl (ov_move rfl rfl) ?_
 refine rl_call callable_58 rfl rfl rfl rfl rfl rfl (node_nil n B H w0 w hO) (fun e1 w2 hp3 => ?_)
 obtain ⟨rfl, hO2⟩ := hp3
 refine ⟨_, rfl, ?_⟩
 refine rl_v rfl rfl rfl (ov_move rfl rfl) <| rl_v rfl rfl rfl (ov_extract rfl rfl (by rfl)) ?_
 refine rl_v rfl rfl rfl (ov_extract rfl rfl (by rfl)) ?_
 refine rl_v rfl rfl rfl (ov_assign rfl rfl) <| rl_v rfl rfl rfl (ov_assign rfl rfl) <| rl_nil <| run_seq <| run_seq <| run_region <| rl_v rfl rfl rfl (ov_move rfl rfl) <| rl_v rfl rfl rfl (ov_neq rfl rfl rfl) <| rl_nil ?_
 first | refine run_cond_dec rfl (fun g1 => ?_) (fun g1n => ?_) | refine run_cond rfl (fun g1 => ?_) (fun g1n => ?_)
 ·refine run_seq <| run_region <| rl_v rfl rfl rfl (ov_move rfl rfl) <| rl_v rfl rfl rfl (ov_assign rfl rfl) <| rl_v rfl rfl rfl (ov_assign rfl rfl) <| rl_nil <| run_ret Try.func51 (res2 Try.results51 rfl rfl) ?_
  exact ⟨rfl, hO2⟩
 ·exfalso; exact absurd g1n (by decide)
theorem tick_nil (n : Int) (B : Nat) (H : List (Option Blk)) (w0 w : World) (hO : Own B w0 w H) :
  Calls Try.prog 31 #[.pointer none, iv n] w fun e w' => e = .returned (iv 3) ∧ Own B w0 w' H := by
 refine calls_of_run (F := [(0, _), (1, _)]) Try.func31 rfl Try.ntmps31 rfl rfl <| run_seq <| run_region <| rl_v rfl rfl rfl (ov_assign rfl rfl) <| rl_nil <| run_seq <| run_region <| rl_v rfl rfl rfl (ov_move rfl rfl) <| rl_v rfl rfl rfl (ov_move rfl rfl) ?_
 refine rl_call callable_58 rfl rfl rfl rfl rfl rfl (node_nil n B H w0 w hO) (fun e1 w2 hp3 => ?_)
 obtain ⟨rfl, hO2⟩ := hp3
 refine ⟨_, rfl, ?_⟩
 refine rl_v rfl rfl rfl (ov_move rfl rfl) <| rl_v rfl rfl rfl (ov_extract rfl rfl (by rfl)) ?_
 refine rl_v rfl rfl rfl (ov_extract rfl rfl (by rfl)) ?_
 refine rl_v rfl rfl rfl (ov_assign rfl rfl) <| rl_v rfl rfl rfl (ov_assign rfl rfl) <| rl_nil <| run_seq <| run_seq <| run_region <| rl_v rfl rfl rfl (ov_move rfl rfl) <| rl_v rfl rfl rfl (ov_neq rfl rfl rfl) <| rl_nil ?_
 first | refine run_cond_dec rfl (fun g1 => ?_) (fun g1n => ?_) | refine run_cond rfl (fun g1 => ?_) (fun g1n => ?_)
 ·refine run_seq <| run_region <| rl_v rfl rfl rfl (ov_move rfl rfl) <| rl_v rfl rfl rfl (ov_assign rfl rfl) <| rl_nil <| run_ret Try.func31 (res1 Try.results31 rfl) ?_
  exact ⟨rfl, hO2⟩
 ·exfalso; exact absurd g1n (by decide)
theorem restart_nil (n : Int) (B : Nat) (H : List (Option Blk)) (w0 w : World) (hO : Own B w0 w H) :
  Calls Try.prog 32 #[.pointer none, iv n] w fun e w' => e = .returned (iv 3) ∧ Own B w0 w' H := by
 refine calls_of_run (F := [(0, _), (1, _)]) Try.func32 rfl Try.ntmps32 rfl rfl <| run_seq <| run_region <| rl_v rfl rfl rfl (ov_assign rfl rfl) <| rl_nil <| run_seq <| run_region <| rl_v rfl rfl rfl (ov_move rfl rfl) <| rl_v rfl rfl rfl (ov_move rfl rfl) ?_
 refine rl_call callable_58 rfl rfl rfl rfl rfl rfl (node_nil n B H w0 w hO) (fun e1 w2 hp3 => ?_)
 obtain ⟨rfl, hO2⟩ := hp3
 refine ⟨_, rfl, ?_⟩
 refine rl_v rfl rfl rfl (ov_move rfl rfl) <| rl_v rfl rfl rfl (ov_extract rfl rfl (by rfl)) ?_
 refine rl_v rfl rfl rfl (ov_extract rfl rfl (by rfl)) ?_
 refine rl_v rfl rfl rfl (ov_assign rfl rfl) <| rl_v rfl rfl rfl (ov_assign rfl rfl) <| rl_nil <| run_seq <| run_seq <| run_region <| rl_v rfl rfl rfl (ov_move rfl rfl) <| rl_v rfl rfl rfl (ov_neq rfl rfl rfl) <| rl_nil ?_
 first | refine run_cond_dec rfl (fun g1 => ?_) (fun g1n => ?_) | refine run_cond rfl (fun g1 => ?_) (fun g1n => ?_)
 ·refine run_seq <| run_region <| rl_v rfl rfl rfl (ov_move rfl rfl) <| rl_v rfl rfl rfl (ov_assign rfl rfl) <| rl_nil <| run_ret Try.func32 (res1 Try.results32 rfl) ?_
  exact ⟨rfl, hO2⟩
 ·exfalso; exact absurd g1n (by decide)
theorem crash_nil (n k : Int) (B : Nat) (H : List (Option Blk)) (w0 w : World) (hO : Own B w0 w H) :
  Calls Try.prog 29 #[.pointer none, iv n, iv k] w fun e w' => e = .returned (iv 3) ∧ Own B w0 w' H := by
 refine calls_of_run (F := [(0, _), (1, _), (2, _)]) Try.func29 rfl Try.ntmps29 rfl rfl <| run_seq <| run_region <| rl_v rfl rfl rfl (ov_assign rfl rfl) <| rl_nil <| run_seq <| run_region <| rl_v rfl rfl rfl (ov_move rfl rfl) <| rl_v rfl rfl rfl (ov_move rfl rfl) ?_
 refine rl_call callable_58 rfl rfl rfl rfl rfl rfl (node_nil n B H w0 w hO) (fun e1 w2 hp3 => ?_)
 obtain ⟨rfl, hO2⟩ := hp3
 refine ⟨_, rfl, ?_⟩
 refine rl_v rfl rfl rfl (ov_move rfl rfl) <| rl_v rfl rfl rfl (ov_extract rfl rfl (by rfl)) ?_
 refine rl_v rfl rfl rfl (ov_extract rfl rfl (by rfl)) ?_
 refine rl_v rfl rfl rfl (ov_assign rfl rfl) <| rl_v rfl rfl rfl (ov_assign rfl rfl) <| rl_nil <| run_seq <| run_seq <| run_region <| rl_v rfl rfl rfl (ov_move rfl rfl) <| rl_v rfl rfl rfl (ov_neq rfl rfl rfl) <| rl_nil ?_
 first | refine run_cond_dec rfl (fun g1 => ?_) (fun g1n => ?_) | refine run_cond rfl (fun g1 => ?_) (fun g1n => ?_)
 ·refine run_seq <| run_region <| rl_v rfl rfl rfl (ov_move rfl rfl) <| rl_v rfl rfl rfl (ov_assign rfl rfl) <| rl_nil <| run_ret Try.func29 (res1 Try.results29 rfl) ?_
  exact ⟨rfl, hO2⟩
 ·exfalso; exact absurd g1n (by decide)
theorem fuse_nil (n k : Int) (B : Nat) (H : List (Option Blk)) (w0 w : World) (hO : Own B w0 w H) :
  Calls Try.prog 42 #[.pointer none, iv n, iv k] w fun e w' => e = .returned (iv 3) ∧ Own B w0 w' H := by
 refine calls_of_run (F := [(0, _), (1, _), (2, _)]) Try.func42 rfl Try.ntmps42 rfl rfl <| run_seq <| run_region <| rl_v rfl rfl rfl (ov_assign rfl rfl) <| rl_nil <| run_seq <| run_region <| rl_v rfl rfl rfl (ov_move rfl rfl) <| rl_v rfl rfl rfl (ov_move rfl rfl) ?_
 refine rl_call callable_58 rfl rfl rfl rfl rfl rfl (node_nil n B H w0 w hO) (fun e1 w2 hp3 => ?_)
 obtain ⟨rfl, hO2⟩ := hp3
 refine ⟨_, rfl, ?_⟩
 refine rl_v rfl rfl rfl (ov_move rfl rfl) <| rl_v rfl rfl rfl (ov_extract rfl rfl (by rfl)) ?_
 refine rl_v rfl rfl rfl (ov_extract rfl rfl (by rfl)) ?_
 refine rl_v rfl rfl rfl (ov_assign rfl rfl) <| rl_v rfl rfl rfl (ov_assign rfl rfl) <| rl_nil <| run_seq <| run_seq <| run_region <| rl_v rfl rfl rfl (ov_move rfl rfl) <| rl_v rfl rfl rfl (ov_neq rfl rfl rfl) <| rl_nil ?_
 first | refine run_cond_dec rfl (fun g1 => ?_) (fun g1n => ?_) | refine run_cond rfl (fun g1 => ?_) (fun g1n => ?_)
 ·refine run_seq <| run_region <| rl_v rfl rfl rfl (ov_move rfl rfl) <| rl_v rfl rfl rfl (ov_assign rfl rfl) <| rl_nil <| run_ret Try.func42 (res1 Try.results42 rfl) ?_
  exact ⟨rfl, hO2⟩
 ·exfalso; exact absurd g1n (by decide)
theorem log_nil (n : Int) (B : Nat) (H : List (Option Blk)) (w0 w : World) (hO : Own B w0 w H) :
  Calls Try.prog 23 #[.pointer none, iv n] w fun e w' => e = .returned (.tuple #[iv 0, iv 0]) ∧ Own B w0 w' H := by
 refine calls_of_run (F := [(0, _), (1, _)]) Try.func23 rfl Try.ntmps23 rfl rfl <| run_seq <| run_region <| rl_v rfl rfl rfl (ov_assign rfl rfl) <| rl_v rfl rfl rfl (ov_assign rfl rfl) <| rl_nil <| run_seq <| run_region <| rl_v rfl rfl rfl (ov_move rfl rfl) <| rl_v rfl rfl rfl (ov_move rfl rfl) ?_
 refine rl_call callable_58 rfl rfl rfl rfl rfl rfl (node_nil n B H w0 w hO) (fun e1 w2 hp3 => ?_)
 obtain ⟨rfl, hO2⟩ := hp3
 refine ⟨_, rfl, ?_⟩
 refine rl_v rfl rfl rfl (ov_move rfl rfl) <| rl_v rfl rfl rfl (ov_extract rfl rfl (by rfl)) ?_
 refine rl_v rfl rfl rfl (ov_extract rfl rfl (by rfl)) ?_
 refine rl_v rfl rfl rfl (ov_assign rfl rfl) <| rl_v rfl rfl rfl (ov_assign rfl rfl) <| rl_nil <| run_seq <| run_seq <| run_region <| rl_v rfl rfl rfl (ov_move rfl rfl) <| rl_v rfl rfl rfl (ov_neq rfl rfl rfl) <| rl_nil ?_
 first | refine run_cond_dec rfl (fun g1 => ?_) (fun g1n => ?_) | refine run_cond rfl (fun g1 => ?_) (fun g1n => ?_)
 ·refine run_seq <| run_region <| rl_v rfl rfl rfl (ov_assign rfl rfl) <| rl_v rfl rfl rfl (ov_assign rfl rfl) <| rl_nil <| run_ret Try.func23 (res2 Try.results23 rfl rfl) ?_
  exact ⟨rfl, hO2⟩
 ·exfalso; exact absurd g1n (by decide)
theorem balances_nil (n : Int) (B : Nat) (H : List (Option Blk)) (w0 w : World) (hO : Own B w0 w H) :
  Calls Try.prog 24 #[.pointer none, iv n] w fun e w' => e = .returned (.tuple #[.slice none 0 0, iv 3]) ∧ Own B w0 w' H := by
 refine calls_of_run (F := [(0, _), (1, _)]) Try.func24 rfl Try.ntmps24 rfl rfl <| run_seq <| run_region <| rl_v rfl rfl rfl (ov_assign rfl rfl) <| rl_v rfl rfl rfl (ov_assign rfl rfl) <| rl_nil <| run_seq <| run_region <| rl_v rfl rfl rfl (ov_move rfl rfl) <| rl_v rfl rfl rfl (ov_move rfl rfl) ?_
 refine rl_call callable_51 rfl rfl rfl rfl rfl rfl (site_nil n B H w0 w hO) (fun e1 w2 hp3 => ?_)
 obtain ⟨rfl, hO2⟩ := hp3
 refine ⟨_, rfl, ?_⟩
 refine rl_v rfl rfl rfl (ov_move rfl rfl) <| rl_v rfl rfl rfl (ov_extract rfl rfl (by rfl)) ?_
 refine rl_v rfl rfl rfl (ov_extract rfl rfl (by rfl)) ?_
 refine rl_v rfl rfl rfl (ov_assign rfl rfl) <| rl_v rfl rfl rfl (ov_assign rfl rfl) <| rl_nil <| run_seq <| run_seq <| run_region <| rl_v rfl rfl rfl (ov_move rfl rfl) <| rl_v rfl rfl rfl (ov_neq rfl rfl rfl) <| rl_nil ?_
 first | refine run_cond_dec rfl (fun g1 => ?_) (fun g1n => ?_) | refine run_cond rfl (fun g1 => ?_) (fun g1n => ?_)
 ·refine run_seq <| run_region <| rl_v rfl rfl rfl (ov_move rfl rfl) <| rl_v rfl rfl rfl (ov_assign rfl rfl) <| rl_v rfl rfl rfl (ov_assign rfl rfl) <| rl_nil <| run_ret Try.func24 (res2 Try.results24 rfl rfl) ?_
  exact ⟨rfl, hO2⟩
 ·exfalso; exact absurd g1n (by decide)
theorem free_nil (n : Int) (B : Nat) (H : List (Option Blk)) (w0 w : World) (hO : Own B w0 w H) :
  Calls Try.prog 16 #[.pointer none, iv n] w fun e w' => e = .returned (.tuple #[.slice none 0 0, iv 3]) ∧ Own B w0 w' H := by
 refine calls_of_run (F := [(0, _), (1, _)]) Try.func16 rfl Try.ntmps16 rfl rfl <| run_seq <| run_region <| rl_v rfl rfl rfl (ov_assign rfl rfl) <| rl_v rfl rfl rfl (ov_assign rfl rfl) <| rl_nil <| run_seq <| run_region <| rl_v rfl rfl rfl (ov_move rfl rfl) <| rl_v rfl rfl rfl (ov_move rfl rfl) ?_
 refine rl_call callable_51 rfl rfl rfl rfl rfl rfl (site_nil n B H w0 w hO) (fun e1 w2 hp3 => ?_)
 obtain ⟨rfl, hO2⟩ := hp3
 refine ⟨_, rfl, ?_⟩
 refine rl_v rfl rfl rfl (ov_move rfl rfl) <| rl_v rfl rfl rfl (ov_extract rfl rfl (by rfl)) ?_
 refine rl_v rfl rfl rfl (ov_extract rfl rfl (by rfl)) ?_
 refine rl_v rfl rfl rfl (ov_assign rfl rfl) <| rl_v rfl rfl rfl (ov_assign rfl rfl) <| rl_nil <| run_seq <| run_seq <| run_region <| rl_v rfl rfl rfl (ov_move rfl rfl) <| rl_v rfl rfl rfl (ov_neq rfl rfl rfl) <| rl_nil ?_
 first | refine run_cond_dec rfl (fun g1 => ?_) (fun g1n => ?_) | refine run_cond rfl (fun g1 => ?_) (fun g1n => ?_)
 ·refine run_seq <| run_region <| rl_v rfl rfl rfl (ov_move rfl rfl) <| rl_v rfl rfl rfl (ov_assign rfl rfl) <| rl_v rfl rfl rfl (ov_assign rfl rfl) <| rl_nil <| run_ret Try.func16 (res2 Try.results16 rfl rfl) ?_
  exact ⟨rfl, hO2⟩
 ·exfalso; exact absurd g1n (by decide)
theorem at_nil (n d : Int) (B : Nat) (H : List (Option Blk)) (w0 w : World) (hO : Own B w0 w H) :
  Calls Try.prog 19 #[.pointer none, iv n, iv d] w fun e w' => e = .returned (iv 0) ∧ Own B w0 w' H := by
 refine calls_of_run (F := [(0, _), (1, _), (2, _)]) Try.func19 rfl Try.ntmps19 rfl rfl <| run_seq <| run_region <| rl_v rfl rfl rfl (ov_assign rfl rfl) <| rl_nil <| run_seq <| run_region <| rl_v rfl rfl rfl (ov_move rfl rfl) <| rl_v rfl rfl rfl (ov_move rfl rfl) ?_
 refine rl_call callable_51 rfl rfl rfl rfl rfl rfl (site_nil n B H w0 w hO) (fun e1 w2 hp3 => ?_)
 obtain ⟨rfl, hO2⟩ := hp3
 refine ⟨_, rfl, ?_⟩
 refine rl_v rfl rfl rfl (ov_move rfl rfl) <| rl_v rfl rfl rfl (ov_extract rfl rfl (by rfl)) ?_
 refine rl_v rfl rfl rfl (ov_extract rfl rfl (by rfl)) ?_
 refine rl_v rfl rfl rfl (ov_assign rfl rfl) <| rl_v rfl rfl rfl (ov_assign rfl rfl) <| rl_nil <| run_seq <| run_seq <| run_region <| rl_v rfl rfl rfl (ov_move rfl rfl) <| rl_v rfl rfl rfl (ov_neq rfl rfl rfl) <| rl_nil ?_
 first | refine run_cond_dec rfl (fun g1 => ?_) (fun g1n => ?_) | refine run_cond rfl (fun g1 => ?_) (fun g1n => ?_)
 ·refine run_seq <| run_region <| rl_v rfl rfl rfl (ov_assign rfl rfl) <| rl_nil <| run_ret Try.func19 (res1 Try.results19 rfl) ?_
  exact ⟨rfl, hO2⟩
 ·exfalso; exact absurd g1n (by decide)
theorem up_nil (n : Int) (B : Nat) (H : List (Option Blk)) (w0 w : World) (hO : Own B w0 w H) :
  Calls Try.prog 30 #[.pointer none, iv n] w fun e w' => e = .returned (.bool false) ∧ Own B w0 w' H := by
 refine calls_of_run (F := [(0, _), (1, _)]) Try.func30 rfl Try.ntmps30 rfl rfl <| run_seq <| run_region <| rl_v rfl rfl rfl (ov_assign rfl rfl) <| rl_nil <| run_seq <| run_region <| rl_v rfl rfl rfl (ov_move rfl rfl) <| rl_v rfl rfl rfl (ov_move rfl rfl) ?_
 refine rl_call callable_58 rfl rfl rfl rfl rfl rfl (node_nil n B H w0 w hO) (fun e1 w2 hp3 => ?_)
 obtain ⟨rfl, hO2⟩ := hp3
 refine ⟨_, rfl, ?_⟩
 refine rl_v rfl rfl rfl (ov_move rfl rfl) <| rl_v rfl rfl rfl (ov_extract rfl rfl (by rfl)) ?_
 refine rl_v rfl rfl rfl (ov_extract rfl rfl (by rfl)) ?_
 refine rl_v rfl rfl rfl (ov_assign rfl rfl) <| rl_v rfl rfl rfl (ov_assign rfl rfl) <| rl_nil <| run_seq <| run_region <| rl_v rfl rfl rfl (ov_move rfl rfl) <| rl_v rfl rfl rfl (ov_eql rfl rfl rfl) <| rl_v rfl rfl rfl (ov_move rfl rfl) ?_
 first | refine rl_noD 15 rfl (by decide) ?_ | refine rl_no 15 rfl (by decide) ?_
 refine rl_gskip rfl rfl rfl rfl rfl rfl <| rl_gskip rfl rfl rfl rfl rfl rfl <| rl_gskip rfl rfl rfl rfl rfl rfl <| rl_gskip rfl rfl rfl rfl rfl rfl <| rl_gskip rfl rfl rfl rfl rfl rfl <| rl_gskip rfl rfl rfl rfl rfl rfl <| rl_v rfl rfl rfl (ov_pick_f rfl rfl rfl) <| rl_v rfl rfl rfl (ov_assign rfl rfl) <| rl_nil <| run_ret Try.func30 (res1 Try.results30 rfl) ?_
 exact ⟨rfl, hO2⟩
theorem state_nil (d : Int) (B : Nat) (H : List (Option Blk)) (w0 w : World) (hO : Own B w0 w H) :
  Calls Try.prog 34 #[.pointer none, iv d] w fun e w' => e = .returned (iv 0) ∧ Own B w0 w' H := by
 refine calls_of_run (F := [(0, _), (1, _)]) Try.func34 rfl Try.ntmps34 rfl rfl <| run_seq <| run_region <| rl_v rfl rfl rfl (ov_assign rfl rfl) <| rl_nil <| run_seq <| run_seq <| run_region <| rl_v rfl rfl rfl (ov_move rfl rfl) ?_
 refine rl_call callable_30 rfl rfl rfl rfl rfl rfl (up_nil 0 B H w0 w hO) (fun e1 w2 hp3 => ?_)
 obtain ⟨rfl, hO2⟩ := hp3
 refine ⟨_, rfl, ?_⟩
 refine rl_v rfl rfl rfl (ov_not rfl rfl) <| rl_nil <| run_cond_t rfl <| run_seq <| run_region <| rl_v rfl rfl rfl (ov_assign rfl rfl) <| rl_nil <| run_ret Try.func34 (res1 Try.results34 rfl) ?_
 exact ⟨rfl, hO2⟩
theorem deliver_nil (n : Int) (B : Nat) (H : List (Option Blk)) (w0 w : World) (hO : Own B w0 w H) :
  Calls Try.prog 43 #[.pointer none, iv n] w fun e w' => e = .returned (iv 3) ∧ Own B w0 w' H := by
 refine calls_of_run (F := [(0, _), (1, _)]) Try.func43 rfl Try.ntmps43 rfl rfl <| run_seq <| run_region <| rl_v rfl rfl rfl (ov_assign rfl rfl) <| rl_nil <| run_seq <| run_region <| rl_v rfl rfl rfl (ov_move rfl rfl) <| rl_v rfl rfl rfl (ov_move rfl rfl) ?_
 refine rl_call callable_71 rfl rfl rfl rfl rfl rfl (message_nil n B H w0 w hO) (fun e1 w2 hp3 => ?_)
 obtain ⟨rfl, hO2⟩ := hp3
 refine ⟨_, rfl, ?_⟩
 refine rl_v rfl rfl rfl (ov_move rfl rfl) <| rl_v rfl rfl rfl (ov_extract rfl rfl (by rfl)) ?_
 refine rl_v rfl rfl rfl (ov_extract rfl rfl (by rfl)) ?_
 refine rl_ow rfl (ow_alloc _ rfl rfl rfl zero_87 rfl hO2) ?_
 rintro _ w4 ⟨b5, rfl, hO5, hs6⟩
 refine rl_ow rfl (ow_storeW rfl rfl (by kernel_rfl) hO5 0 rfl rfl (by rfl) rfl (by rfl)) ?_
 rintro _ w7 ⟨rfl, hO8, hs9⟩
 refine rl_v rfl rfl rfl (ov_assign rfl rfl) <| rl_nil <| run_seq <| run_seq <| run_region <| rl_v rfl rfl rfl (ov_move rfl rfl) <| rl_v rfl rfl rfl (ov_neq rfl rfl rfl) <| rl_nil ?_
 first | refine run_cond_dec rfl (fun g1 => ?_) (fun g1n => ?_) | refine run_cond rfl (fun g1 => ?_) (fun g1n => ?_)
 ·refine run_seq <| run_region <| rl_v rfl rfl rfl (ov_move rfl rfl) <| rl_v rfl rfl rfl (ov_assign rfl rfl) <| rl_nil <| run_ret Try.func43 (res1 Try.results43 rfl) ?_
  exact ⟨rfl, hO8.tail⟩
 ·exfalso; exact absurd g1n (by decide)
theorem lose_nil (n : Int) (B : Nat) (H : List (Option Blk)) (w0 w : World) (hO : Own B w0 w H) :
  Calls Try.prog 44 #[.pointer none, iv n] w fun e w' => e = .returned (iv 3) ∧ Own B w0 w' H := by
 refine calls_of_run (F := [(0, _), (1, _)]) Try.func44 rfl Try.ntmps44 rfl rfl <| run_seq <| run_region <| rl_v rfl rfl rfl (ov_assign rfl rfl) <| rl_nil <| run_seq <| run_region <| rl_v rfl rfl rfl (ov_move rfl rfl) <| rl_v rfl rfl rfl (ov_move rfl rfl) ?_
 refine rl_call callable_71 rfl rfl rfl rfl rfl rfl (message_nil n B H w0 w hO) (fun e1 w2 hp3 => ?_)
 obtain ⟨rfl, hO2⟩ := hp3
 refine ⟨_, rfl, ?_⟩
 refine rl_v rfl rfl rfl (ov_move rfl rfl) <| rl_v rfl rfl rfl (ov_extract rfl rfl (by rfl)) ?_
 refine rl_v rfl rfl rfl (ov_extract rfl rfl (by rfl)) ?_
 refine rl_ow rfl (ow_alloc _ rfl rfl rfl zero_87 rfl hO2) ?_
 rintro _ w4 ⟨b5, rfl, hO5, hs6⟩
 refine rl_ow rfl (ow_storeW rfl rfl (by kernel_rfl) hO5 0 rfl rfl (by rfl) rfl (by rfl)) ?_
 rintro _ w7 ⟨rfl, hO8, hs9⟩
 refine rl_v rfl rfl rfl (ov_assign rfl rfl) <| rl_nil <| run_seq <| run_seq <| run_region <| rl_v rfl rfl rfl (ov_move rfl rfl) <| rl_v rfl rfl rfl (ov_neq rfl rfl rfl) <| rl_nil ?_
 first | refine run_cond_dec rfl (fun g1 => ?_) (fun g1n => ?_) | refine run_cond rfl (fun g1 => ?_) (fun g1n => ?_)
 ·refine run_seq <| run_region <| rl_v rfl rfl rfl (ov_move rfl rfl) <| rl_v rfl rfl rfl (ov_assign rfl rfl) <| rl_nil <| run_ret Try.func44 (res1 Try.results44 rfl) ?_
  exact ⟨rfl, hO8.tail⟩
 ·exfalso; exact absurd g1n (by decide)
theorem copy_nil (n : Int) (B : Nat) (H : List (Option Blk)) (w0 w : World) (hO : Own B w0 w H) :
  Calls Try.prog 45 #[.pointer none, iv n] w fun e w' => e = .returned (iv 3) ∧ Own B w0 w' H := by
 refine calls_of_run (F := [(0, _), (1, _)]) Try.func45 rfl Try.ntmps45 rfl rfl <| run_seq <| run_region <| rl_v rfl rfl rfl (ov_assign rfl rfl) <| rl_nil <| run_seq <| run_region <| rl_v rfl rfl rfl (ov_move rfl rfl) <| rl_v rfl rfl rfl (ov_move rfl rfl) ?_
 refine rl_call callable_71 rfl rfl rfl rfl rfl rfl (message_nil n B H w0 w hO) (fun e1 w2 hp3 => ?_)
 obtain ⟨rfl, hO2⟩ := hp3
 refine ⟨_, rfl, ?_⟩
 refine rl_v rfl rfl rfl (ov_move rfl rfl) <| rl_v rfl rfl rfl (ov_extract rfl rfl (by rfl)) ?_
 refine rl_v rfl rfl rfl (ov_extract rfl rfl (by rfl)) ?_
 refine rl_ow rfl (ow_alloc _ rfl rfl rfl zero_87 rfl hO2) ?_
 rintro _ w4 ⟨b5, rfl, hO5, hs6⟩
 refine rl_ow rfl (ow_storeW rfl rfl (by kernel_rfl) hO5 0 rfl rfl (by rfl) rfl (by rfl)) ?_
 rintro _ w7 ⟨rfl, hO8, hs9⟩
 refine rl_v rfl rfl rfl (ov_assign rfl rfl) <| rl_nil <| run_seq <| run_seq <| run_region <| rl_v rfl rfl rfl (ov_move rfl rfl) <| rl_v rfl rfl rfl (ov_neq rfl rfl rfl) <| rl_nil ?_
 first | refine run_cond_dec rfl (fun g1 => ?_) (fun g1n => ?_) | refine run_cond rfl (fun g1 => ?_) (fun g1n => ?_)
 ·refine run_seq <| run_region <| rl_v rfl rfl rfl (ov_move rfl rfl) <| rl_v rfl rfl rfl (ov_assign rfl rfl) <| rl_nil <| run_ret Try.func45 (res1 Try.results45 rfl) ?_
  exact ⟨rfl, hO8.tail⟩
 ·exfalso; exact absurd g1n (by decide)
end Go.Proofs.Yteagflekbbchhaa
