import Derived.Test.YtbepolognfdkeaaGreatGcC
set_option maxRecDepth 100000
namespace Go.Proofs.YtbepolognfdkeaaGreat
open Go.RowKit Go.Proofs Go.MapKept
noncomputable instance (l : Lds) : Decidable l.Short := Classical.propDecidable _
theorem areShort1_any (l : Lds) (i : Int) (w : World) : Calls Tryz.prog 64 (#[.agg (ldF l i).toArray] ++ #[]) w fun e w' => e = .returned (.bool (decide (l.len i ≠ 1))) ∧ Own w.heap.size w w' [] := by
 refine calls_of_run (F := [(0, _)]) Tryz.func64 rfl Tryz.ntmps64 rfl rfl ?_
 have hO0 := Own.init w
 refine run_seq <| run_region <| rl_ow rfl (ow_box _ rfl rfl rfl rfl rfl hO0) ?_
 rintro _ w1 ⟨b1, rfl, hO2, hs3⟩
 have hOb : Own w.heap.size w w1 [some (lch b1 58 (ldF l i))] := hO2
 refine rl_v rfl rfl rfl (ov_assign rfl rfl) <| rl_nil <| run_seq <| run_region <| rl_v rfl rfl rfl (ov_fieldS rfl Tryz.underlying58 rfl (fo := 2) rfl (by kernel_rfl) rfl) ?_
 refine rl_v rfl rfl rfl (ov_load rfl Tryz.underlying3 rfl rfl (by exact hOb.cellL 0 rfl (off := 2) rfl)) ?_
 refine rl_v rfl rfl rfl (ov_neq rfl rfl rfl) <| rl_v rfl rfl rfl (ov_assign rfl rfl) <| rl_nil <| run_ret Tryz.func64 (res1 Tryz.results64 rfl) ?_
 exact ⟨rfl, hOb.tail⟩
theorem indexFunc7_any (la : Option Addr) (lc : Nat) (l : Lds) (w : World) (hn : l.n ≤ 100000) (hl : SAt w.heap.size w la 4 l.n (ldF l)) :
  Calls Tryz.prog 99 #[.slice la l.n lc, .func (.func 64) #[] #[]] w fun e w' => ∃ r : Int, e = .returned (iv r) ∧ (0 ≤ r ↔ ¬ l.Short) ∧ Own w.heap.size w w' [] := by
 obtain ⟨lb, lo, hla, hlr⟩ := hl.open (by decide)
 refine calls_of_run (F := [(0, _), (1, _)]) Tryz.func99 rfl Tryz.ntmps99 rfl rfl ?_
 have hO0 := Own.init w
 refine run_seq <| run_region <| rl_v rfl rfl rfl (ov_assign rfl rfl) <| rl_nil <| run_seq <| run_seq <| run_region <| rl_v rfl rfl rfl (ov_move rfl rfl) <| rl_v rfl rfl rfl (ov_len rfl Tryz.underlying24 rfl) <| rl_v rfl rfl rfl (ov_move rfl rfl) <| rl_nil <| run_block <| Run.keep [0, 1, 7, 8] (F' := [(0, _), (1, _), (7, _), (8, _)]) rfl <| run_loop1 (fun (i : Nat) => [(8, .int .i64 (i : Int))]) [0, 1, 7] (fun (i : Nat) (w1 : World) => i ≤ l.n ∧ (∀ j : Int, 0 ≤ j → j < i → l.len j = 1) ∧ Own w.heap.size w w1 []) (fun (i : Nat) => l.n - i) (0) ?_ (And.intro (by exact slot_int rfl (by first | omega)) (And.intro rfl (And.intro rfl (And.intro rfl trivial)))) ?_
 ·exact ⟨Nat.zero_le _, fun j a b => by omega, hO0⟩
 intro i w1 hIw1 ih2
 obtain ⟨hi, hs, hO1⟩ := hIw1
 show Run _ _ _ _ [(8, _), (0, _), (1, _), (7, _)] _ _
 refine run_seq <| run_region <| rl_v rfl rfl rfl (ov_lss rfl rfl rfl) <| rl_nil <| run_seq ?_
 first | refine run_cond_dec rfl (fun c1 => ?_) (fun c1 => ?_) | refine run_cond rfl (fun c1 => ?_) (fun c1 => ?_)
 ·refine run_skip <| run_seq <| run_block <| run_seq <| run_region <| rl_v rfl rfl rfl (ov_move rfl rfl) <| rl_v rfl rfl rfl (ov_assign rfl rfl) <| rl_nil <| run_seq <| run_region <| rl_v rfl rfl rfl (ov_move rfl rfl) <| rl_v rfl rfl rfl (ov_move rfl rfl) <| rl_v rfl rfl rfl (ov_move rfl rfl) <| rl_v rfl rfl rfl (ov_index rfl Tryz.underlying24 (by kernel_rfl) (s := 4) rfl rfl ⟨by omega, by omega⟩ (by exact hla (by omega))) ?_
  refine rl_v rfl rfl rfl (ov_loadE rfl Tryz.underlying58 rfl (by kernel_rfl) rfl ⟨by omega, by omega⟩ rfl (hlr _ hO1.below)) ?_
  refine rl_call callable_64 rfl rfl rfl rfl rfl rfl (areShort1_any l i _) (fun e3 w4 hp5 => ?_)
  obtain ⟨rfl, hOa⟩ := hp5
  refine ⟨_, rfl, ?_⟩
  have hO6 := hO1.join hOa
  refine rl_nil ?_
  first | refine run_cond_dec rfl (fun c2 => ?_) (fun c2 => ?_) | refine run_cond rfl (fun c2 => ?_) (fun c2 => ?_)
  ·refine run_seq <| run_region <| rl_v rfl rfl rfl (ov_move rfl rfl) <| rl_v rfl rfl rfl (ov_assign rfl rfl) <| rl_nil <| run_ret Tryz.func99 (res1 Tryz.results99 rfl) ?_
   exact ⟨i, rfl, ⟨fun _ h => c2 (h i (by omega) c1), fun _ => by omega⟩, hO6⟩
  ·have hs2 : ∀ j : Int, 0 ≤ j → j < ((i + 1 : Nat) : Int) → l.len j = 1 := fun j j0 j1 => by
    by_cases e : j = (i : Int)
    ·rw [e]; exact Classical.not_not.1 c2
    ·exact hs j j0 (by omega)
   refine run_skip <| run_inBlock <| run_region <| rl_v rfl rfl rfl (ov_add rfl rfl rfl (by omega)) ?_
   refine rl_v rfl rfl rfl (ov_move rfl rfl) <| rl_nil ?_
   refine Run.use (ih2 (i + 1) _ ?_ ?_) (And.intro (by exact slot_int rfl (by first | omega)) (And.intro rfl (And.intro rfl (And.intro rfl trivial))))
   ·first | omega | (dsimp only; omega)
   ·exact ⟨by omega, hs2, hO6⟩
 ·have hsh : l.Short := fun j j0 j1 => hs j j0 (by omega)
  refine run_exit rfl <| run_seq <| run_region <| rl_v rfl rfl rfl (ov_assign rfl rfl) <| rl_nil <| run_ret Tryz.func99 (res1 Tryz.results99 rfl) ?_
  exact ⟨-1, rfl, ⟨fun h => by omega, fun h => absurd hsh h⟩, hO1⟩
theorem areShort_any (la : Option Addr) (lc : Nat) (l : Lds) (w : World) (hn : l.n ≤ 100000) (hl : SAt w.heap.size w la 4 l.n (ldF l)) :
  Calls Tryz.prog 34 #[.slice la l.n lc] w fun e w' => e = .returned (.bool (decide l.Short)) ∧ Own w.heap.size w w' [] := by
 have hcf : ∀ w : World, SAt w.heap.size w la 4 l.n (ldF l) → Calls Tryz.prog 63 #[.slice la l.n lc, .func (.func 64) #[] #[]] w fun e w' => e = .returned (.bool (decide (¬ l.Short))) ∧ Own w.heap.size w w' [] := fun w hl => by
  refine calls_of_run (F := [(0, _), (1, _)]) Tryz.func63 rfl Tryz.ntmps63 rfl rfl ?_
  have hO0 := Own.init w
  refine run_seq <| run_region <| rl_v rfl rfl rfl (ov_assign rfl rfl) <| rl_nil <| run_seq <| run_region <| rl_v rfl rfl rfl (ov_move rfl rfl) <| rl_v rfl rfl rfl (ov_move rfl rfl) ?_
  refine rl_call callable_99 rfl rfl rfl rfl rfl rfl (indexFunc7_any la lc l _ hn (hO0.satU hl)) (fun e1 w2 hp3 => ?_)
  obtain ⟨r, rfl, hr, hOa⟩ := hp3
  refine ⟨_, rfl, ?_⟩
  have hO4 := hO0.join hOa
  refine rl_v rfl rfl rfl (ov_geq rfl rfl rfl) <| rl_v rfl rfl rfl (ov_assign rfl rfl) <| rl_nil <| run_ret Tryz.func63 (res1 Tryz.results63 rfl) ?_
  exact ⟨by rw [decide_eq_decide.2 hr], hO4⟩
 refine calls_of_run (F := [(0, _)]) Tryz.func34 rfl Tryz.ntmps34 rfl rfl ?_
 have hO0 := Own.init w
 refine run_seq <| run_region <| rl_v rfl rfl rfl (ov_assign rfl rfl) <| rl_nil <| run_seq <| run_region <| rl_v rfl rfl rfl (ov_move rfl rfl) ?_
 refine rl_call callable_63 rfl rfl rfl rfl rfl rfl (hcf _ (hO0.satU hl)) (fun e1 w2 hp3 => ?_)
 obtain ⟨rfl, hOa⟩ := hp3
 refine ⟨_, rfl, ?_⟩
 have hO4 := hO0.join hOa
 refine rl_v rfl rfl rfl (ov_not rfl rfl) <| rl_v rfl rfl rfl (ov_assign rfl rfl) <| rl_nil <| run_ret Tryz.func34 (res1 Tryz.results34 rfl) ?_
 exact ⟨by by_cases h : l.Short <;> simp [h], hO4⟩
end Go.Proofs.YtbepolognfdkeaaGreat
