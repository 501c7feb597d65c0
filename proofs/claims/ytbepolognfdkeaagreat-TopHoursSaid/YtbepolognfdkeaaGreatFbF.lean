import Derived.Test.YtbepolognfdkeaaGreatFaA
import Derived.Test.YtbepolognfdkeaaGreatBits0
import Derived.Test.YtbepolognfdkeaaGreatTab
import Derived.Deep.Quiet
set_option maxRecDepth 100000
namespace Go.Proofs.YtbepolognfdkeaaGreat
open Go.RowKit Go.Proofs
theorem sm_eq {f g : Int → Int} {k : Int} (h : ∀ i : Int, 0 ≤ i → i < k → f i ≤ g i) (e : sm g k ≤ sm f k) {i : Int} (i0 : 0 ≤ i) (i1 : i < k) : f i = g i := by
 have h1 := sm_pos (f := fun i => g i - f i) (k := k) (fun i i0 i1 => by have := h i i0 i1; omega) i i0 i1
 have h2 := sm_sub g f k
 have h3 := h i i0 i1
 omega
theorem sm_one {k x : Int} (x0 : 0 ≤ x) (x1 : x < k) (c : Int) : sm (fun i => if x = i then c else 0) k = c := by
 have e : (fun i => if x = i then c else 0) = upd (fun _ => 0) x c := by
  funext i
  unfold upd
  by_cases h : i = x
  ·rw [if_pos h.symm, if_pos h]
  ·rw [if_neg h, if_neg fun e => h e.symm]
 rw [e, sm_upd _ _ _ x0 x1, sm_const 0 (by omega)]
 omega
end Go.Proofs.YtbepolognfdkeaaGreat
set_option maxRecDepth 100000
namespace Go.Proofs.YtbepolognfdkeaaGreat
open Go.RowKit Go.Proofs Go.MapKept
theorem Own.iatF {B : Nat} {w0 w : World} {H : List (Option Blk)} (hO : Own B w0 w H) {ao : Option Addr} {n : Nat} {G : Int → Value} (h : IAt B w0 ao n G) : IAt w.heap.size w ao n G := (hO.old h).mono hO.size
theorem perm_sink3 {α : Type} {x a b c : α} {M : List α} : (x :: a :: b :: c :: M).Perm (a :: b :: c :: (M ++ [x])) := List.perm_append_comm (l₁ := [x]) (l₂ := a :: b :: c :: M)
end Go.Proofs.YtbepolognfdkeaaGreat
set_option maxRecDepth 100000
namespace Go.Proofs.YtbepolognfdkeaaGreat
open Go.RowKit Go.Proofs
theorem mulbR {a b A B : Int} (ha : 0 ≤ a) (ha2 : a ≤ A) (hb : 0 ≤ b) (hb2 : b ≤ B) : 0 ≤ a * b ∧ a * b ≤ A * B :=
 ⟨Int.mul_nonneg ha hb, Int.mul_le_mul ha2 hb2 hb (Int.le_trans ha ha2)⟩
theorem mul64R_any (x y : Int) (w : World) (hx : 0 ≤ x ∧ x < 4294967296) (hy : 0 ≤ y ∧ y < 4294967296) :
  Calls Tryz.prog 136 #[.int .u64 x, .int .u64 y] w fun e w' => e = .returned (.tuple #[.int .u64 0, .int .u64 (x * y)]) ∧ Below w.heap.size w w' := by
 have hxy := mulbR hx.1 (show x ≤ 4294967295 by omega) hy.1 (show y ≤ 4294967295 by omega)
 have e0 : x % 4294967296 = x := Int.emod_eq_of_lt hx.1 hx.2
 have e1 : y % 4294967296 = y := Int.emod_eq_of_lt hy.1 hy.2
 have e2 : x / 4294967296 = 0 := Int.ediv_eq_zero_of_lt hx.1 hx.2
 have e3 : y / 4294967296 = 0 := Int.ediv_eq_zero_of_lt hy.1 hy.2
 have key : ∀ a b : Int, a = 0 → Ending.returned (.tuple #[.int .u64 a, .int .u64 b]) = .returned (.tuple #[.int .u64 0, .int .u64 b]) := by rintro _ _ rfl; rfl
 refine calls_of_run (F := [(0, _), (1, _)]) Tryz.func136 rfl Tryz.ntmps136 rfl rfl ?_
 have hO0 := Own.init w
 refine run_seq <| run_region <| rl_v rfl rfl rfl (ov_assign rfl rfl) <| rl_v rfl rfl rfl (ov_assign rfl rfl) <| rl_nil <| run_seq <| run_region <| rl_v rfl rfl rfl (ov_move rfl rfl) <| rl_v rfl rfl rfl (ov_and32 rfl rfl rfl ⟨by omega, by omega⟩) ?_
 refine rl_v rfl rfl rfl (ov_assign rfl rfl) <| rl_nil <| run_seq <| run_region <| rl_v rfl rfl rfl (ov_move rfl rfl) <| rl_v rfl rfl rfl (ov_shr32 rfl rfl rfl) <| rl_v rfl rfl rfl (ov_assign rfl rfl) <| rl_nil <| run_seq <| run_region <| rl_v rfl rfl rfl (ov_move rfl rfl) <| rl_v rfl rfl rfl (ov_and32 rfl rfl rfl ⟨by omega, by omega⟩) ?_
 refine rl_v rfl rfl rfl (ov_assign rfl rfl) <| rl_nil <| run_seq <| run_region <| rl_v rfl rfl rfl (ov_move rfl rfl) <| rl_v rfl rfl rfl (ov_shr32 rfl rfl rfl) <| rl_v rfl rfl rfl (ov_assign rfl rfl) <| rl_nil <| run_seq <| run_region <| rl_v rfl rfl rfl (ov_move rfl rfl) <| rl_v rfl rfl rfl (ov_move rfl rfl) <| rl_v rfl rfl rfl (ov_mulU rfl rfl rfl (by rw [e0, e1]; omega)) ?_
 refine rl_v rfl rfl rfl (ov_assign rfl rfl) <| rl_nil <| run_seq <| run_region <| rl_v rfl rfl rfl (ov_move rfl rfl) <| rl_v rfl rfl rfl (ov_move rfl rfl) <| rl_v rfl rfl rfl (ov_mulU rfl rfl rfl (by rw [e2, e1]; omega)) ?_
 refine rl_v rfl rfl rfl (ov_move rfl rfl) <| rl_v rfl rfl rfl (ov_shr32 rfl rfl rfl) <| rl_v rfl rfl rfl (ov_addU rfl rfl rfl (by rw [e2, e1, e0]; omega)) ?_
 refine rl_v rfl rfl rfl (ov_assign rfl rfl) <| rl_nil <| run_seq <| run_region <| rl_v rfl rfl rfl (ov_move rfl rfl) <| rl_v rfl rfl rfl (ov_and32 rfl rfl rfl (by rw [e2, e1, e0]; omega)) ?_
 refine rl_v rfl rfl rfl (ov_assign rfl rfl) <| rl_nil <| run_seq <| run_region <| rl_v rfl rfl rfl (ov_move rfl rfl) <| rl_v rfl rfl rfl (ov_shr32 rfl rfl rfl) <| rl_v rfl rfl rfl (ov_assign rfl rfl) <| rl_nil <| run_seq <| run_region <| rl_v rfl rfl rfl (ov_move rfl rfl) <| rl_v rfl rfl rfl (ov_move rfl rfl) <| rl_v rfl rfl rfl (ov_move rfl rfl) <| rl_v rfl rfl rfl (ov_mulU rfl rfl rfl (by rw [e0, e3]; omega)) ?_
 refine rl_v rfl rfl rfl (ov_addU rfl rfl rfl (by rw [e0, e1, e2, e3]; omega)) ?_
 refine rl_v rfl rfl rfl (ov_assign rfl rfl) <| rl_nil <| run_seq <| run_region <| rl_v rfl rfl rfl (ov_move rfl rfl) <| rl_v rfl rfl rfl (ov_move rfl rfl) <| rl_v rfl rfl rfl (ov_mulU rfl rfl rfl (by rw [e2, e3]; omega)) ?_
 refine rl_v rfl rfl rfl (ov_move rfl rfl) <| rl_v rfl rfl rfl (ov_addU rfl rfl rfl (by rw [e0, e1, e2, e3]; omega)) ?_
 refine rl_v rfl rfl rfl (ov_move rfl rfl) <| rl_v rfl rfl rfl (ov_shr32 rfl rfl rfl) <| rl_v rfl rfl rfl (ov_addU rfl rfl rfl (by rw [e0, e1, e2, e3]; omega)) ?_
 refine rl_v rfl rfl rfl (ov_assign rfl rfl) <| rl_nil <| run_seq <| run_region <| rl_v rfl rfl rfl (ov_move rfl rfl) <| rl_v rfl rfl rfl (ov_move rfl rfl) <| rl_v rfl rfl rfl (ov_mulU rfl rfl rfl (by omega)) ?_
 refine rl_v rfl rfl rfl (ov_assign rfl rfl) <| rl_nil <| run_ret Tryz.func136 (res2 Tryz.results136 rfl rfl) ?_
 exact ⟨key _ _ (by rw [e0, e1, e2, e3]; omega), hO0.below⟩
theorem mulR_any (x y : Int) (w : World) (hx : 0 ≤ x ∧ x < 4294967296) (hy : 0 ≤ y ∧ y < 4294967296) :
  Calls Tryz.prog 98 #[.int .u64 x, .int .u64 y] w fun e w' => e = .returned (.tuple #[.int .u64 0, .int .u64 (x * y)]) ∧ Below w.heap.size w w' := by
 refine calls_of_run (F := [(0, _), (1, _)]) Tryz.func98 rfl Tryz.ntmps98 rfl rfl ?_
 have hO0 := Own.init w
 refine run_seq <| run_region <| rl_v rfl rfl rfl (ov_assign rfl rfl) <| rl_v rfl rfl rfl (ov_assign rfl rfl) <| rl_nil <| run_seq <| run_cond_f rfl <| run_skip <| run_seq <| run_region <| rl_v rfl rfl rfl (ov_move rfl rfl) <| rl_v rfl rfl rfl (ov_move rfl rfl) ?_
 refine rl_call callable_136 rfl rfl rfl rfl rfl rfl (mul64R_any x y _ hx hy) (fun e1 w2 hp3 => ?_)
 obtain ⟨rfl, hb⟩ := hp3
 refine ⟨_, rfl, ?_⟩
 have hO4 := hO0.past hb
 refine rl_v rfl rfl rfl (ov_move rfl rfl) <| rl_v rfl rfl rfl (ov_extract rfl rfl (by rfl)) ?_
 refine rl_v rfl rfl rfl (ov_extract rfl rfl (by rfl)) ?_
 refine rl_v rfl rfl rfl (ov_assign rfl rfl) <| rl_v rfl rfl rfl (ov_assign rfl rfl) <| rl_nil <| run_seq <| run_region <| rl_v rfl rfl rfl (ov_move rfl rfl) <| rl_v rfl rfl rfl (ov_move rfl rfl) <| rl_v rfl rfl rfl (ov_assign rfl rfl) <| rl_v rfl rfl rfl (ov_assign rfl rfl) <| rl_nil <| run_ret Tryz.func98 (res2 Tryz.results98 rfl rfl) ?_
 exact ⟨rfl, hO4.below⟩
theorem repeatR_any (ao : Option Addr) (c m : Nat) (x : Int) (w : World) (hm : 1 ≤ m) (hm2 : m ≤ 1000000)
  (h : IAt w.heap.size w ao 1 (fun _ => .int .i64 x)) :
  Calls Tryz.prog 62 #[.slice ao 1 c, .int .i64 m] w fun e w' =>
   ∃ b, e = .returned (.slice (some ⟨b, 0, none⟩) m m) ∧ Own w.heap.size w w' [some (vch b 3 m (fun _ => .int .i64 x))] := by
 obtain ⟨gb, go, hga, hrow⟩ := h.open
 have ew : IntKind.u64.wrap (m : Int) = m := IntWalk.u64_in _ (by omega)
 obtain rfl := hga (by omega)
 have ew1 : IntKind.u64.wrap ((1 : Nat) : Int) * IntKind.u64.wrap (m : Int) = m := by
  rw [ew, show IntKind.u64.wrap ((1 : Nat) : Int) = 1 from IntWalk.u64_in _ (by omega), Int.one_mul]
 have ei : IntKind.i64.wrap (IntKind.u64.wrap ((1 : Nat) : Int) * IntKind.u64.wrap (m : Int)) = m := by rw [ew1]; exact IntWalk.i64_in _ (by omega)
 refine calls_of_run (F := [(0, _), (1, _)]) Tryz.func62 rfl Tryz.ntmps62 rfl rfl ?_
 have hO0 := Own.init w
 refine run_seq <| run_region <| rl_v rfl rfl rfl (ov_assign rfl rfl) <| rl_nil <| run_seq <| run_seq <| run_region <| rl_v rfl rfl rfl (ov_move rfl rfl) <| rl_v rfl rfl rfl (ov_lss rfl rfl rfl) <| rl_nil ?_
 first | refine run_cond_dec rfl (fun h1 => ?_) (fun h1 => ?_) | refine run_cond rfl (fun h1 => ?_) (fun h1 => ?_)
 ·exfalso; omega
 ·refine run_skip <| run_seq <| run_region <| rl_v rfl rfl rfl (ov_move rfl rfl) <| rl_v rfl rfl rfl (ov_len rfl Tryz.underlying36 rfl) <| rl_v rfl rfl rfl (ov_conv rfl Tryz.underlying3 Tryz.underlying56 rfl) <| rl_v rfl rfl rfl (ov_move rfl rfl) <| rl_v rfl rfl rfl (ov_conv rfl Tryz.underlying3 Tryz.underlying56 rfl) ?_
  refine rl_call callable_98 rfl rfl rfl rfl rfl rfl (mulR_any _ _ _ ⟨by decide, by decide⟩ ⟨by rw [ew]; omega, by rw [ew]; omega⟩) (fun e1 w2 hp3 => ?_)
  obtain ⟨rfl, hb⟩ := hp3
  refine ⟨_, rfl, ?_⟩
  have hO4 := hO0.past hb
  refine rl_v rfl rfl rfl (ov_move rfl rfl) <| rl_v rfl rfl rfl (ov_extract rfl rfl (by rfl)) ?_
  refine rl_v rfl rfl rfl (ov_extract rfl rfl (by rfl)) ?_
  refine rl_v rfl rfl rfl (ov_assign rfl rfl) <| rl_v rfl rfl rfl (ov_assign rfl rfl) <| rl_nil <| run_seq <| run_seq <| run_region <| rl_v rfl rfl rfl (ov_move rfl rfl) <| rl_v rfl rfl rfl (ov_gtr rfl rfl rfl) <| rl_v rfl rfl rfl (ov_move rfl rfl) ?_
  first | refine rl_split_dec 23 rfl (fun hg5 => ?_) (fun hg5 => ?_) | refine rl_split 23 rfl (fun hg5 => ?_) (fun hg5 => ?_)
  ·refine rl_gskip rfl rfl rfl rfl rfl rfl <| rl_gskip rfl rfl rfl rfl rfl rfl <| rl_v rfl rfl rfl (ov_pick_t rfl rfl rfl) <| rl_nil <| run_cond_t rfl ?_
   exfalso; omega
  ·refine rl_gv rfl rfl rfl rfl rfl (ov_move rfl rfl) <| rl_gv rfl rfl rfl rfl rfl (ov_gtr rfl rfl rfl) <| rl_v rfl rfl rfl (ov_pick_f rfl rfl rfl) <| rl_nil ?_
   first | refine run_cond_dec rfl (fun h3 => ?_) (fun h3 => ?_) | refine run_cond rfl (fun h3 => ?_) (fun h3 => ?_)
   ·exfalso; omega
   ·refine run_skip <| run_seq <| run_region <| rl_v rfl rfl rfl (ov_move rfl rfl) <| rl_v rfl rfl rfl (ov_conv rfl Tryz.underlying56 Tryz.underlying3 rfl) ?_
    refine rl_make (m) rfl rfl rfl rfl Tryz.underlying36 info_3 rfl hO4 rfl rfl (by omega) (by omega) ⟨by omega, by omega⟩ (fun b w6 hO7 hs8 => ?_)
    refine rl_v rfl rfl rfl (ov_assign rfl rfl) <| rl_nil <| run_seq <| run_region <| rl_v rfl rfl rfl (ov_move rfl rfl) <| rl_v rfl rfl rfl (ov_move rfl rfl) <| rl_ow rfl (ow_copy (1) rfl rfl rfl Tryz.underlying36 (by kernel_rfl) hO7 0 rfl rfl rfl (by omega) (by omega) (fun i h0 hi => hrow _ hO7.below i h0 (by omega)) (fun _ => rfl)) ?_
    rintro _ w9 ⟨rfl, hO10, hs11⟩
    refine rl_v rfl rfl rfl (ov_assign rfl rfl) <| rl_nil <| run_seq <| run_block <| Run.keep [7, 8] (F' := [(7, _), (8, _)]) rfl <| run_loop2 (fun (k : Int) (G : Int → Value) => [(8, .int .i64 k)]) [7] (fun (k : Int) (G : Int → Value) (w12 : World) => 1 ≤ k ∧ k ≤ m ∧ (∀ i : Int, 0 ≤ i → i < k → G i = .int .i64 x) ∧ (∀ i, (G i).oneCell' = true) ∧ Own w.heap.size w w12 [some (vch b 3 m G)]) (fun (k : Int) (G : Int → Value) => ((m : Int) - k).toNat) (1) (fun j => if ((0 : Nat) : Int) ≤ j ∧ j < ((0 : Nat) : Int) + ((1 : Nat) : Int) then .int .i64 x else .int .i64 0) ?_ (And.intro (by exact slot_int rfl (by first | omega)) (And.intro rfl trivial)) ?_
    ·exact ⟨by omega, by omega, fun i h0 h1 => if_pos (by omega), fun i => by (dsimp only; split <;> rfl), hO10⟩
    intro k G w12 hIw12 ih13
    obtain ⟨hk0, hk1, hG, hG1, hO⟩ := hIw12
    show Run _ _ _ _ [(8, _), (7, _)] _ _
    refine run_seq <| run_seq <| run_region <| rl_v rfl rfl rfl (ov_move rfl rfl) <| rl_v rfl rfl rfl (ov_move rfl rfl) <| rl_v rfl rfl rfl (ov_len rfl Tryz.underlying36 rfl) <| rl_v rfl rfl rfl (ov_lss rfl rfl rfl) <| rl_nil ?_
    first | refine run_cond_dec rfl (fun h5 => ?_) (fun h5 => ?_) | refine run_cond rfl (fun h5 => ?_) (fun h5 => ?_)
    ·refine run_skip <| run_block <| run_held (fun w' => Own w.heap.size w w' ([none])) mixed ?_
     have hO15 := hO.drew
     generalize World.drew w12 = w14 at hO15 ⊢
     have hS16 : Own w.heap.size w w14 ([none]) := by exact ⟨hO15.below, hO15.hB, by simp, by simp, by simp⟩
     refine rh_v 0 rfl (by kernel_rfl) rfl rfl rfl hS16 (fun _ hS => ov_move rfl rfl) ?_
     refine rh_v 1 rfl (by kernel_rfl) rfl rfl rfl hS16 (fun _ hS => ov_move rfl rfl) ?_
     refine rh_v 2 rfl (by kernel_rfl) rfl rfl rfl hS16 (fun _ hS => ov_move rfl rfl) ?_
     refine rh_v 3 rfl (by kernel_rfl) rfl rfl rfl hS16 (fun _ hS => ov_sliceL rfl Tryz.underlying36 (by kernel_rfl) (s := 1) rfl rfl ⟨by omega, by omega⟩ (by omega) rfl) ?_
     refine rh_v 4 rfl (by kernel_rfl) rfl rfl rfl hS16 (fun _ hS => ov_move rfl rfl) ?_
     refine rh_v 5 rfl (by kernel_rfl) rfl rfl rfl hS16 (fun _ hS => ov_move rfl rfl) ?_
     refine rh_v 6 rfl (by kernel_rfl) rfl rfl rfl hS16 (fun _ hS => ov_sliceH (k.toNat) (s := 1) rfl Tryz.underlying36 (by kernel_rfl) rfl rfl (by omega) (by omega)) ?_
     refine rh_any1 7 (by kernel_rfl) ?_
     refine rc_op rfl rfl (ow_copy ((min k.toNat (m - k.toNat))) rfl rfl rfl Tryz.underlying36 (by kernel_rfl) hO15 0 rfl rfl rfl (by rfl) (by omega) (fun i h0 hi => hO15.cellI 0 rfl i h0 (by omega)) (hG1)) ?_
     rintro _ w17 ⟨rfl, hO18, hs19⟩
     have hS20 : Own w.heap.size w w17 ([none]) := by exact ⟨hO18.below, hO18.hB, by simp, by simp, by simp⟩
     refine ⟨hS20, ?_⟩
     refine rh_v 8 rfl (by kernel_rfl) rfl rfl rfl hS20 (fun _ hS => ov_add rfl rfl rfl (by omega)) ?_
     refine rh_v 9 rfl (by kernel_rfl) rfl rfl rfl hS20 (fun _ hS => ov_assign rfl rfl) ?_
     refine rh_done (by kernel_rfl) ?_
     refine run_inBlock ?_
     refine Run.use (ih13 (k + ((min k.toNat (m - k.toNat) : Nat) : Int)) (fun j => if (((0 + k.toNat * 1 : Nat) : Int)) ≤ j ∧ j < ((0 + k.toNat * 1 : Nat) : Int) + ((min k.toNat (m - k.toNat) : Nat) : Int) then G (j - ((0 + k.toNat * 1 : Nat) : Int)) else G j) _ ?_ ?_) (And.intro (by exact slot_int rfl (by first | omega)) (And.intro rfl trivial))
     ·first | omega | (dsimp only; omega)
     ·exact ⟨by omega, by omega, fun i h0 h1 => by split; exact hG _ (by omega) (by omega); exact hG _ (by omega) (by omega), fun i => by split <;> exact hG1 _, hO18⟩
    ·refine run_exit rfl <| run_seq <| run_region <| rl_v rfl rfl rfl (ov_move rfl rfl) <| rl_v rfl rfl rfl (ov_assign rfl rfl) <| rl_nil <| run_ret Tryz.func62 (res1 Tryz.results62 rfl) ?_
     exact ⟨b, rfl, hO.congrI 0 rfl (fun i h0 hi => hG i h0 (by omega))⟩
theorem repeatR0_any (ao : Option Addr) (c : Nat) (x : Int) (w : World)
  (h : IAt w.heap.size w ao 1 (fun _ => .int .i64 x)) :
  Calls Tryz.prog 62 #[.slice ao 1 c, .int .i64 0] w fun e w' =>
   ∃ b, e = .returned (.slice (some ⟨b, 0, none⟩) 0 0) ∧ Own w.heap.size w w' [some (vch b 3 0 (fun _ => .int .i64 x))] := by
 obtain ⟨gb, go, hga, hrow⟩ := h.open
 obtain rfl := hga (by omega)
 have ew1 : IntKind.u64.wrap ((1 : Nat) : Int) * IntKind.u64.wrap 0 = 0 := by
  rw [show IntKind.u64.wrap ((1 : Nat) : Int) = 1 from IntWalk.u64_in _ (by omega), show IntKind.u64.wrap 0 = 0 from IntWalk.u64_in _ (by omega)]; rfl
 have ei : IntKind.i64.wrap (IntKind.u64.wrap ((1 : Nat) : Int) * IntKind.u64.wrap 0) = 0 := by rw [ew1]; exact IntWalk.i64_in _ (by omega)
 refine calls_of_run (F := [(0, _), (1, _)]) Tryz.func62 rfl Tryz.ntmps62 rfl rfl ?_
 have hO0 := Own.init w
 refine run_seq <| run_region <| rl_v rfl rfl rfl (ov_assign rfl rfl) <| rl_nil <| run_seq <| run_seq <| run_region <| rl_v rfl rfl rfl (ov_move rfl rfl) <| rl_v rfl rfl rfl (ov_lss rfl rfl rfl) <| rl_nil ?_
 first | refine run_cond_dec rfl (fun h1 => ?_) (fun h1 => ?_) | refine run_cond rfl (fun h1 => ?_) (fun h1 => ?_)
 ·exfalso; omega
 ·refine run_skip <| run_seq <| run_region <| rl_v rfl rfl rfl (ov_move rfl rfl) <| rl_v rfl rfl rfl (ov_len rfl Tryz.underlying36 rfl) <| rl_v rfl rfl rfl (ov_conv rfl Tryz.underlying3 Tryz.underlying56 rfl) <| rl_v rfl rfl rfl (ov_move rfl rfl) <| rl_v rfl rfl rfl (ov_conv rfl Tryz.underlying3 Tryz.underlying56 rfl) ?_
  refine rl_call callable_98 rfl rfl rfl rfl rfl rfl (mulR_any _ _ _ ⟨by decide, by decide⟩ ⟨by decide, by decide⟩) (fun e1 w2 hp3 => ?_)
  obtain ⟨rfl, hb⟩ := hp3
  refine ⟨_, rfl, ?_⟩
  have hO4 := hO0.past hb
  refine rl_v rfl rfl rfl (ov_move rfl rfl) <| rl_v rfl rfl rfl (ov_extract rfl rfl (by rfl)) ?_
  refine rl_v rfl rfl rfl (ov_extract rfl rfl (by rfl)) ?_
  refine rl_v rfl rfl rfl (ov_assign rfl rfl) <| rl_v rfl rfl rfl (ov_assign rfl rfl) <| rl_nil <| run_seq <| run_seq <| run_region <| rl_v rfl rfl rfl (ov_move rfl rfl) <| rl_v rfl rfl rfl (ov_gtr rfl rfl rfl) <| rl_v rfl rfl rfl (ov_move rfl rfl) ?_
  first | refine rl_split_dec 23 rfl (fun hg5 => ?_) (fun hg5 => ?_) | refine rl_split 23 rfl (fun hg5 => ?_) (fun hg5 => ?_)
  ·refine rl_gskip rfl rfl rfl rfl rfl rfl <| rl_gskip rfl rfl rfl rfl rfl rfl <| rl_v rfl rfl rfl (ov_pick_t rfl rfl rfl) <| rl_nil <| run_cond_t rfl ?_
   exfalso; omega
  ·refine rl_gv rfl rfl rfl rfl rfl (ov_move rfl rfl) <| rl_gv rfl rfl rfl rfl rfl (ov_gtr rfl rfl rfl) <| rl_v rfl rfl rfl (ov_pick_f rfl rfl rfl) <| rl_nil ?_
   first | refine run_cond_dec rfl (fun h3 => ?_) (fun h3 => ?_) | refine run_cond rfl (fun h3 => ?_) (fun h3 => ?_)
   ·exfalso; omega
   ·refine run_skip <| run_seq <| run_region <| rl_v rfl rfl rfl (ov_move rfl rfl) <| rl_v rfl rfl rfl (ov_conv rfl Tryz.underlying56 Tryz.underlying3 rfl) ?_
    refine rl_make (0) rfl rfl rfl rfl Tryz.underlying36 info_3 rfl hO4 rfl rfl (by rfl) (by rfl) ⟨by omega, by omega⟩ (fun b w6 hO7 hs8 => ?_)
    refine rl_v rfl rfl rfl (ov_assign rfl rfl) <| rl_nil <| run_seq <| run_region <| rl_v rfl rfl rfl (ov_move rfl rfl) <| rl_v rfl rfl rfl (ov_move rfl rfl) <| rl_ow rfl (ow_copy (0) rfl rfl rfl Tryz.underlying36 (by kernel_rfl) hO7 0 rfl rfl rfl (by rfl) (by omega) (fun i h0 hi => hrow _ hO7.below i h0 (by omega)) (fun _ => rfl)) ?_
    rintro _ w9 ⟨rfl, hO10, hs11⟩
    refine rl_v rfl rfl rfl (ov_assign rfl rfl) <| rl_nil <| run_seq <| run_block <| run_once <| run_seq <| run_seq <| run_region <| rl_v rfl rfl rfl (ov_move rfl rfl) <| rl_v rfl rfl rfl (ov_move rfl rfl) <| rl_v rfl rfl rfl (ov_len rfl Tryz.underlying36 rfl) <| rl_v rfl rfl rfl (ov_lss rfl rfl rfl) <| rl_nil ?_
    first | refine run_cond_dec rfl (fun h5 => ?_) (fun h5 => ?_) | refine run_cond rfl (fun h5 => ?_) (fun h5 => ?_)
    ·exfalso; omega
    ·refine run_exit rfl <| run_seq <| run_region <| rl_v rfl rfl rfl (ov_move rfl rfl) <| rl_v rfl rfl rfl (ov_assign rfl rfl) <| rl_nil <| run_ret Tryz.func62 (res1 Tryz.results62 rfl) ?_
     exact ⟨b, rfl, hO10.congrI 0 rfl fun i i0 i1 => by omega⟩
theorem repeatR'_any (ao : Option Addr) (c m : Nat) (x : Int) (w : World) (hm2 : m ≤ 1000000) (h : IAt w.heap.size w ao 1 (fun _ => .int .i64 x)) :
  Calls Tryz.prog 62 #[.slice ao 1 c, .int .i64 m] w fun e w' =>
   ∃ b, e = .returned (.slice (some ⟨b, 0, none⟩) m m) ∧ Own w.heap.size w w' [some (vch b 3 m (fun _ => .int .i64 x))] := by
 by_cases e : m = 0
 ·subst e; exact repeatR0_any ao c x w h
 ·exact repeatR_any ao c m x w (by omega) hm2 h
end Go.Proofs.YtbepolognfdkeaaGreat
set_option maxRecDepth 100000
namespace Go.Proofs.YtbepolognfdkeaaGreat
open Go.RowKit Go.Proofs Go.MapKept
theorem IRow.capF {ao : Option Addr} {m cap : Nat} {E : TypeId} {n : Nat} {G : Int → Value} {c : Option Blk} (h : IRow (.slice ao m cap) E n G c) : n ≤ cap := by
 rcases h with ⟨q1, q0, q2⟩ | ⟨hb, cap', g, q1, q2, q3, q4, q5⟩
 ·cases q1; omega
 ·cases q1; exact q2
end Go.Proofs.YtbepolognfdkeaaGreat
namespace Go.Proofs.YtbepolognfdkeaaGreat
open Go.RowKit
section
variable {P : Program} {f N : Nat} {k : List Item} {F : Fr} {w : World} {R : Ending → World → Prop} {ops : Array Oper} {o : Oper} {rest : List Oper} {C : World → Prop}
def RKl (P : Program) (f N : Nat) (ops : Array Oper) (C : World → Prop) (l : List Oper) (k : List Item) (F : Fr) (R : Ending → World → Prop) : Prop :=
 ∀ a, Holds N F a → wpQuiet P ops C (fun a' => ∀ w', C w' → RunA P f k a' w' R) l a
theorem run_class {id : Nat} {l : List Oper} (C : World → Prop) (h0 : C w.drew) (hm : P.follows .mixedOrders = true) (hB : Region.lexB .any l.toArray = true) (h : RKl P f N l.toArray C l k F R) : Run P f N (.code (.region id l.toArray true) :: k) F w R :=
 fun a ha => runA_of_wp (wp_region_quiet (C := C) hm hB h0 (by exact h a ha))
theorem rk_nil (h : ∀ w', C w' → Run P f N k F w' R) : RKl P f N ops C [] k F R := fun a ha => wpQuiet_nil fun w' hw' => h w' hw' a ha
theorem rk_v {d : Nat} {v : Value} (hg : o.guard = none) (hd : o.dst = some d) (hN : Nat.blt d N = true) (hv : ∀ w', C w' → OpV P N o F w' v) (h : RKl P f N ops C rest k ((d, v) :: F) R) : RKl P f N ops C (o :: rest) k F R := by
 intro a ha
 refine wpQuiet_step fun K hK => ?_
 rw [if_pos (by simp [Region.wanted, hg])]
 refine ⟨v, fun w' hw' => ?_, ?_⟩
 ·unfold Oper.quietAt
  rw [hv w' hw' a ha]
  exact ⟨rfl, rfl⟩
 ·rw [hd]
  exact hK _ (h _ (ha.put (lt_of_blt hN) v))
theorem rk_gv {j g d : Nat} {b : Bool} {v : Value} (hg : o.guard = some (j, b)) (hj : (ops[j]?).bind (·.dst) = some g) (hb : Fr.get F g = some (.bool b)) (hd : o.dst = some d) (hN : Nat.blt d N = true) (hv : ∀ w', C w' → OpV P N o F w' v)
  (h : RKl P f N ops C rest k ((d, v) :: F) R) : RKl P f N ops C (o :: rest) k F R := by
 intro a ha
 refine wpQuiet_step fun K hK => ?_
 rw [if_pos (by simp [Region.wanted, hg, yielded_of ha hj hb])]
 refine ⟨v, fun w' hw' => ?_, ?_⟩
 ·unfold Oper.quietAt
  rw [hv w' hw' a ha]
  exact ⟨rfl, rfl⟩
 ·rw [hd]
  exact hK _ (h _ (ha.put (lt_of_blt hN) v))
theorem rk_gskip {j g d : Nat} {b b' : Bool} (hg : o.guard = some (j, b)) (hj : (ops[j]?).bind (·.dst) = some g) (hb : Fr.get F g = some (.bool b')) (hne : (b' == b) = false) (hd : o.dst = some d) (hN : Nat.blt d N = true)
  (h : RKl P f N ops C rest k ((d, undef) :: F) R) : RKl P f N ops C (o :: rest) k F R := by
 intro a ha
 refine wpQuiet_step fun K hK => ?_
 have hw : Region.wanted o (yielded ops a.tmps) = false := by
  simp only [Region.wanted, hg, yielded_of ha hj hb]
  simpa using hne
 rw [if_neg (by simp [hw]), hd]
 exact hK _ (h _ (ha.put (lt_of_blt hN) undef))
theorem holds_at {a : Act} (ha : Holds N F a) {g : Nat} {v : Value} (h : Fr.get F g = some v) : Holds N ((g, v) :: F) a := ha.weaken fun i u hu => by
 unfold Fr.get at hu
 by_cases e' : i = g
 ·subst e'; simp at hu; rw [← hu]; exact h
 ·have : Nat.beq i g = false := nbeq e'
  simpa [this] using hu
theorem rk_split (g : Nat) {b : Bool} {l : List Oper} (hb : Fr.get F g = some (.bool b)) (ht : b = true → RKl P f N ops C l k ((g, .bool true) :: F) R) (hf : b = false → RKl P f N ops C l k ((g, .bool false) :: F) R) : RKl P f N ops C l k F R := by
 intro a ha
 cases hb' : b
 ·exact hf hb' a (holds_at ha (by rw [hb, hb']))
 ·exact ht hb' a (holds_at ha (by rw [hb, hb']))
theorem rk_split_dec (g : Nat) {p : Prop} {dp : Decidable p} {l : List Oper} (hb : Fr.get F g = some (.bool (decide p))) (ht : p → RKl P f N ops C l k ((g, .bool true) :: F) R) (hf : ¬ p → RKl P f N ops C l k ((g, .bool false) :: F) R) : RKl P f N ops C l k F R :=
 rk_split g hb (fun h => ht (of_decide_eq_true h)) (fun h => hf (of_decide_eq_false h))
theorem rl_noD (g : Nat) {p : Prop} {dp : Decidable p} {l : List Oper} (hb : Fr.get F g = some (.bool (decide p))) (h : ¬ p) (hf : RL P f N ops l k ((g, .bool false) :: F) w R) : RL P f N ops l k F w R :=
 rl_split_dec g hb (fun e => absurd e h) (fun _ => hf)
theorem rl_yes (g : Nat) {b : Bool} {l : List Oper} (hb : Fr.get F g = some (.bool b)) (h : b = true) (hf : RL P f N ops l k ((g, .bool true) :: F) w R) : RL P f N ops l k F w R :=
 rl_split g hb (fun _ => hf) (fun e => by rw [h] at e; cases e)
theorem rl_yesD (g : Nat) {p : Prop} {dp : Decidable p} {l : List Oper} (hb : Fr.get F g = some (.bool (decide p))) (h : p) (hf : RL P f N ops l k ((g, .bool true) :: F) w R) : RL P f N ops l k F w R :=
 rl_split_dec g hb (fun _ => hf) (fun e => absurd h e)
theorem rc_gop {S : World → Prop} {fuel i j g : Nat} {b : Bool} {listed : Array Bool} {oi : Oper} {Post : Fr → World → Prop} (hi : ops[i]? = some oi) (hg : oi.guard = some (j, b)) (hj : (ops[j]?).bind (·.dst) = some g) (hb : Fr.get F g = some (.bool b)) (hw : OpW P N oi F w Post)
  (h : ∀ F' w', Post F' w' → S w' ∧ RH P f N ops S fuel (listed.setIfInBounds i true) k F' w' R) : RC P f N ops S fuel listed k i F w R := by
 intro a ha
 unfold wpOp
 rw [hi]
 simp only [Region.wanted, hg, yielded_of ha hj hb]
 rw [if_pos (by simp)]
 exact .inl (hw a ha _ _ fun F' a' w' hp ha' => ⟨(h F' w' hp).1, (h F' w' hp).2 a' ha'⟩)
theorem quiet_call {fo : Operand} {xs : Array Operand} {ats : Array TypeId} {g : FuncId} {cap : Array Value} {vs : List Value} {v : Value} {a : Act} (ha : Holds N F a) (hcl : Callable P g)
  (ho : o.op = .call { callee := .value fo, args := xs, argTypes := ats }) (hf : Fr.ev F fo = some (.func (.func g) #[] cap)) (hx : Fr.evs F xs.toList = some vs)
  (hC : ∀ w', C w' → Calls P g (vs.toArray ++ cap) w' (fun e w'' => e = .returned v ∧ C w'')) : ∀ w', C w' → o.quietAt P a C w' v := fun w' hw' => by
 have hargs : xs.map a.eval = vs.toArray := by
  apply Array.ext'
  simpa using ha.evs hx
 have hrun : (execOp a.eval o).run P w' = .ok (.enter g (vs.toArray ++ cap)) w' := by
  unfold execOp
  simp only [ho, resolve, Sem.run_bind, Deferred.ofValue, ha.ev hf, hargs]
  simp [invoke, Result.andThen, run_callFunc hcl]
 unfold Oper.quietAt
 rw [hrun]
 exact ⟨rfl, hC w' hw'⟩
theorem rk_gcall {fo : Operand} {xs : Array Operand} {ats : Array TypeId} {g j gs : Nat} {b : Bool} {cap : Array Value} {vs : List Value} {d : Nat} {v : Value} (hcl : Callable P g) (hg : o.guard = some (j, b)) (hj : (ops[j]?).bind (·.dst) = some gs) (hb : Fr.get F gs = some (.bool b)) (hd : o.dst = some d) (hN : Nat.blt d N = true)
  (ho : o.op = .call { callee := .value fo, args := xs, argTypes := ats }) (hf : Fr.ev F fo = some (.func (.func g) #[] cap)) (hx : Fr.evs F xs.toList = some vs)
  (hC : ∀ w', C w' → Calls P g (vs.toArray ++ cap) w' (fun e w'' => e = .returned v ∧ C w'')) (h : RKl P f N ops C rest k ((d, v) :: F) R) : RKl P f N ops C (o :: rest) k F R := by
 intro a ha
 refine wpQuiet_step fun K hK => ?_
 rw [if_pos (by simp [Region.wanted, hg, yielded_of ha hj hb])]
 refine ⟨v, quiet_call ha hcl ho hf hx hC, ?_⟩
 rw [hd]
 exact hK _ (h _ (ha.put (lt_of_blt hN) v))
end
section
variable {P : Program} {f N : Nat} {ops : Array Oper} {k : List Item} {F : Fr} {w : World} {R : Ending → World → Prop} {S : World → Prop} {fuel : Nat} {listed : Array Bool}
theorem rh_yes (g : Nat) {b : Bool} (hb : Fr.get F g = some (.bool b)) (h : b = true) (hf : RH P f N ops S fuel listed k ((g, .bool true) :: F) w R) : RH P f N ops S fuel listed k F w R :=
 fun a ha => hf a (holds_at ha (by rw [hb, h]))
theorem rh_yesD (g : Nat) {p : Prop} {dp : Decidable p} (hb : Fr.get F g = some (.bool (decide p))) (h : p) (hf : RH P f N ops S fuel listed k ((g, .bool true) :: F) w R) : RH P f N ops S fuel listed k F w R :=
 rh_yes g hb (decide_eq_true h) hf
theorem rh_no (g : Nat) {b : Bool} (hb : Fr.get F g = some (.bool b)) (h : b = false) (hf : RH P f N ops S fuel listed k ((g, .bool false) :: F) w R) : RH P f N ops S fuel listed k F w R :=
 fun a ha => hf a (holds_at ha (by rw [hb, h]))
theorem rh_noD (g : Nat) {p : Prop} {dp : Decidable p} (hb : Fr.get F g = some (.bool (decide p))) (h : ¬ p) (hf : RH P f N ops S fuel listed k ((g, .bool false) :: F) w R) : RH P f N ops S fuel listed k F w R :=
 rh_no g hb (decide_eq_false h) hf
end
end Go.Proofs.YtbepolognfdkeaaGreat
