import Derived.Test.YtbepolognfdkeaaGcC
set_option maxRecDepth 100000
namespace Go.Proofs.Ytbepolognfdkeaa
open Go.RowKit Go.Proofs Go.MapKept
noncomputable instance (l : Lds) : Decidable l.Short := Classical.propDecidable _
theorem areShort1_any (l : Lds) (i : Int) (w : World) : Calls Try.prog 77 (#[.agg (ldF l i).toArray] ++ #[]) w fun e w' => e = .returned (.bool (decide (l.len i ≠ 1))) ∧ Own w.heap.size w w' [] := by
 refine calls_of_run (F := [(0, _)]) Try.func77 rfl Try.ntmps77 rfl rfl ?_
 have hO0 := Own.init w
 refine run_seq <| run_region <| rl_ow rfl (ow_box _ rfl rfl rfl rfl rfl hO0) ?_
 rintro _ w1 ⟨b1, rfl, hO2, hs3⟩
 have hOb : Own w.heap.size w w1 [some (lch b1 84 (ldF l i))] := hO2
 refine rl_v rfl rfl rfl (ov_assign rfl rfl) <| rl_nil <| run_seq <| run_region <| rl_v rfl rfl rfl (ov_fieldS rfl Try.underlying84 rfl (fo := 2) rfl (by kernel_rfl) rfl) ?_
 refine rl_v rfl rfl rfl (ov_load rfl Try.underlying3 rfl rfl (by exact hOb.cellL 0 rfl (off := 2) rfl)) ?_
 refine rl_v rfl rfl rfl (ov_neq rfl rfl rfl) <| rl_v rfl rfl rfl (ov_assign rfl rfl) <| rl_nil <| run_ret Try.func77 (res1 Try.results77 rfl) ?_
 exact ⟨rfl, hOb.tail⟩
theorem indexFunc7_any (la : Option Addr) (lc : Nat) (l : Lds) (w : World) (hn : l.n ≤ 100000) (hl : SAt w.heap.size w la 4 l.n (ldF l)) :
  Calls Try.prog 104 #[.slice la l.n lc, .func (.func 77) #[] #[]] w fun e w' => ∃ r : Int, e = .returned (iv r) ∧ (0 ≤ r ↔ ¬ l.Short) ∧ Own w.heap.size w w' [] := by
 obtain ⟨lb, lo, hla, hlr⟩ := hl.open (by decide)
 refine calls_of_run (F := [(0, _), (1, _)]) Try.func104 rfl Try.ntmps104 rfl rfl ?_
 have hO0 := Own.init w
 refine run_seq <| run_region <| rl_v rfl rfl rfl (ov_assign rfl rfl) <| rl_nil <| run_seq <| run_seq <| run_region <| rl_v rfl rfl rfl (ov_move rfl rfl) <| rl_v rfl rfl rfl (ov_len rfl Try.underlying27 rfl) <| rl_v rfl rfl rfl (ov_move rfl rfl) <| rl_nil <| run_block <| Run.keep [0, 1, 7, 8] (F' := [(0, _), (1, _), (7, _), (8, _)]) rfl <| run_loop1 (fun (i : Nat) => [(8, .int .i64 (i : Int))]) [0, 1, 7] (fun (i : Nat) (w1 : World) => i ≤ l.n ∧ (∀ j : Int, 0 ≤ j → j < i → l.len j = 1) ∧ Own w.heap.size w w1 []) (fun (i : Nat) => l.n - i) (0) ?_ (And.intro (by exact slot_int rfl (by first | omega)) (And.intro rfl (And.intro rfl (And.intro rfl trivial)))) ?_
 ·exact ⟨Nat.zero_le _, fun j a b => by omega, hO0⟩
 intro i w1 hIw1 ih2
 obtain ⟨hi, hs, hO1⟩ := hIw1
 show Run _ _ _ _ [(8, _), (0, _), (1, _), (7, _)] _ _
 refine run_seq <| run_region <| rl_v rfl rfl rfl (ov_lss rfl rfl rfl) <| rl_nil <| run_seq ?_
 first | refine run_cond_dec rfl (fun c1 => ?_) (fun c1 => ?_) | refine run_cond rfl (fun c1 => ?_) (fun c1 => ?_)
 ·refine run_skip <| run_seq <| run_block <| run_seq <| run_region <| rl_v rfl rfl rfl (ov_move rfl rfl) <| rl_v rfl rfl rfl (ov_assign rfl rfl) <| rl_nil <| run_seq <| run_region <| rl_v rfl rfl rfl (ov_move rfl rfl) <| rl_v rfl rfl rfl (ov_move rfl rfl) <| rl_v rfl rfl rfl (ov_move rfl rfl) <| rl_v rfl rfl rfl (ov_index rfl Try.underlying27 (by kernel_rfl) (s := 4) rfl rfl ⟨by omega, by omega⟩ (by exact hla (by omega))) ?_
  refine rl_v rfl rfl rfl (ov_loadE rfl Try.underlying84 rfl (by kernel_rfl) rfl ⟨by omega, by omega⟩ rfl (hlr _ hO1.below)) ?_
  refine rl_call callable_77 rfl rfl rfl rfl rfl rfl (areShort1_any l i _) (fun e3 w4 hp5 => ?_)
  obtain ⟨rfl, hOa⟩ := hp5
  refine ⟨_, rfl, ?_⟩
  have hO6 := hO1.join hOa
  refine rl_nil ?_
  first | refine run_cond_dec rfl (fun c2 => ?_) (fun c2 => ?_) | refine run_cond rfl (fun c2 => ?_) (fun c2 => ?_)
  ·refine run_seq <| run_region <| rl_v rfl rfl rfl (ov_move rfl rfl) <| rl_v rfl rfl rfl (ov_assign rfl rfl) <| rl_nil <| run_ret Try.func104 (res1 Try.results104 rfl) ?_
   exact ⟨i, rfl, ⟨fun _ h => c2 (h i (by omega) c1), fun _ => by omega⟩, hO6⟩
  ·have hs2 : ∀ j : Int, 0 ≤ j → j < ((i + 1 : Nat) : Int) → l.len j = 1 := fun j j0 j1 => by
    by_cases e : j = (i : Int)
    ·rw [e]; exact Classical.not_not.1 c2
    ·exact hs j j0 (by omega)
   refine run_skip <| run_inBlock <| run_region <| rl_v rfl rfl rfl (ov_add rfl rfl rfl (by omega)) ?_
   refine rl_v rfl rfl rfl (ov_move rfl rfl) <| rl_nil ?_
   refine Run.use (ih2 (i + 1) _ ?_ ?_) (And.intro (by exact slot_int rfl (by first | omega)) (And.intro rfl (And.intro rfl (And.intro rfl trivial))))
   ·first | omega | (dsimp only; omega)
   ·exact ⟨by omega, hs2, hO6⟩
 ·have hsh : l.Short := fun j j0 j1 => hs j j0 (by omega)
  refine run_exit rfl <| run_seq <| run_region <| rl_v rfl rfl rfl (ov_assign rfl rfl) <| rl_nil <| run_ret Try.func104 (res1 Try.results104 rfl) ?_
  exact ⟨-1, rfl, ⟨fun h => by omega, fun h => absurd hsh h⟩, hO1⟩
theorem areShort_any (la : Option Addr) (lc : Nat) (l : Lds) (w : World) (hn : l.n ≤ 100000) (hl : SAt w.heap.size w la 4 l.n (ldF l)) :
  Calls Try.prog 61 #[.slice la l.n lc] w fun e w' => e = .returned (.bool (decide l.Short)) ∧ Own w.heap.size w w' [] := by
 have hcf : ∀ w : World, SAt w.heap.size w la 4 l.n (ldF l) → Calls Try.prog 76 #[.slice la l.n lc, .func (.func 77) #[] #[]] w fun e w' => e = .returned (.bool (decide (¬ l.Short))) ∧ Own w.heap.size w w' [] := fun w hl => by
  refine calls_of_run (F := [(0, _), (1, _)]) Try.func76 rfl Try.ntmps76 rfl rfl ?_
  have hO0 := Own.init w
  refine run_seq <| run_region <| rl_v rfl rfl rfl (ov_assign rfl rfl) <| rl_nil <| run_seq <| run_region <| rl_v rfl rfl rfl (ov_move rfl rfl) <| rl_v rfl rfl rfl (ov_move rfl rfl) ?_
  refine rl_call callable_104 rfl rfl rfl rfl rfl rfl (indexFunc7_any la lc l _ hn (hO0.satU hl)) (fun e1 w2 hp3 => ?_)
  obtain ⟨r, rfl, hr, hOa⟩ := hp3
  refine ⟨_, rfl, ?_⟩
  have hO4 := hO0.join hOa
  refine rl_v rfl rfl rfl (ov_geq rfl rfl rfl) <| rl_v rfl rfl rfl (ov_assign rfl rfl) <| rl_nil <| run_ret Try.func76 (res1 Try.results76 rfl) ?_
  exact ⟨by rw [decide_eq_decide.2 hr], hO4⟩
 refine calls_of_run (F := [(0, _)]) Try.func61 rfl Try.ntmps61 rfl rfl ?_
 have hO0 := Own.init w
 refine run_seq <| run_region <| rl_v rfl rfl rfl (ov_assign rfl rfl) <| rl_nil <| run_seq <| run_region <| rl_v rfl rfl rfl (ov_move rfl rfl) ?_
 refine rl_call callable_76 rfl rfl rfl rfl rfl rfl (hcf _ (hO0.satU hl)) (fun e1 w2 hp3 => ?_)
 obtain ⟨rfl, hOa⟩ := hp3
 refine ⟨_, rfl, ?_⟩
 have hO4 := hO0.join hOa
 refine rl_v rfl rfl rfl (ov_not rfl rfl) <| rl_v rfl rfl rfl (ov_assign rfl rfl) <| rl_nil <| run_ret Try.func61 (res1 Try.results61 rfl) ?_
 exact ⟨by by_cases h : l.Short <;> simp [h], hO4⟩
theorem ints7_any (xa ya : Option Addr) (xn xc yn yc : Nat) (X Y : Int → Int) (w : World) (hx : IAt w.heap.size w xa xn (fun i => iv (X i))) (hy : IAt w.heap.size w ya yn (fun i => iv (Y i))) (hb : xn ≤ 1000000) (hne : xn = yn) (he : ∀ i : Int, 0 ≤ i → i < xn → X i = Y i) :
  Calls Try.prog 32 #[.slice xa xn xc, .slice ya yn yc] w fun e w' => e = .returned (.bool true) ∧ Own w.heap.size w w' [] := by
 obtain ⟨xb, xo, hxa, hxr⟩ := hx.open
 obtain ⟨yb, yo, hya, hyr⟩ := hy.open
 refine calls_of_run (F := [(0, _), (1, _)]) Try.func32 rfl Try.ntmps32 rfl rfl ?_
 have hO0 := Own.init w
 refine run_seq <| run_region <| rl_v rfl rfl rfl (ov_assign rfl rfl) <| rl_nil <| run_seq <| run_seq <| run_region <| rl_v rfl rfl rfl (ov_move rfl rfl) <| rl_v rfl rfl rfl (ov_len rfl Try.underlying47 rfl) <| rl_v rfl rfl rfl (ov_move rfl rfl) <| rl_v rfl rfl rfl (ov_len rfl Try.underlying47 rfl) <| rl_v rfl rfl rfl (ov_neq rfl rfl rfl) <| rl_nil ?_
 first | refine run_cond_dec rfl (fun c1 => ?_) (fun c1 => ?_) | refine run_cond rfl (fun c1 => ?_) (fun c1 => ?_)
 ·exfalso; omega
 ·refine run_skip <| run_seq <| run_seq <| run_region <| rl_v rfl rfl rfl (ov_assign rfl rfl) <| rl_nil <| run_block <| Run.keep [0, 1, 5] (F' := [(0, _), (1, _), (5, _)]) rfl <| run_loop1 (fun (i : Nat) => [(5, .int .i64 (i : Int))]) [0, 1] (fun (i : Nat) (w1 : World) => i ≤ xn ∧ Own w.heap.size w w1 []) (fun (i : Nat) => xn - i) (0) ?_ (And.intro (by exact slot_int rfl (by first | omega)) (And.intro rfl (And.intro rfl trivial))) ?_
  ·exact ⟨Nat.zero_le _, hO0⟩
  intro i w1 hIw1 ih2
  obtain ⟨hi, hO1⟩ := hIw1
  show Run _ _ _ _ [(5, _), (0, _), (1, _)] _ _
  refine run_seq <| run_seq <| run_region <| rl_v rfl rfl rfl (ov_move rfl rfl) <| rl_v rfl rfl rfl (ov_move rfl rfl) <| rl_v rfl rfl rfl (ov_len rfl Try.underlying47 rfl) <| rl_v rfl rfl rfl (ov_lss rfl rfl rfl) <| rl_nil ?_
  first | refine run_cond_dec rfl (fun c2 => ?_) (fun c2 => ?_) | refine run_cond rfl (fun c2 => ?_) (fun c2 => ?_)
  ·have hei := he i (by omega) c2
   refine run_skip <| run_seq <| run_block <| run_seq <| run_quiet mixed (by kernel_rfl) ?_
   refine rq_v rfl rfl rfl (fun _ => ov_move rfl rfl) ?_
   refine rq_v rfl rfl rfl (fun _ => ov_move rfl rfl) ?_
   refine rq_v rfl rfl rfl (fun _ => ov_index1 rfl Try.underlying47 (by kernel_rfl) rfl rfl ⟨by omega, by omega⟩ (by exact hxa (by omega))) ?_
   refine rq_v rfl rfl rfl (fun _ => ov_load rfl Try.underlying3 rfl rfl (by show World.cell? w1 _ = _; first | exact hxr _ hO1.below i (by omega) c2)) ?_
   refine rq_v rfl rfl rfl (fun _ => ov_move rfl rfl) ?_
   refine rq_v rfl rfl rfl (fun _ => ov_move rfl rfl) ?_
   refine rq_v rfl rfl rfl (fun _ => ov_index1 rfl Try.underlying47 (by kernel_rfl) rfl rfl ⟨by omega, by omega⟩ (by exact hya (by omega))) ?_
   refine rq_v rfl rfl rfl (fun _ => ov_load rfl Try.underlying3 rfl rfl (by show World.cell? w1 _ = _; first | exact hyr _ hO1.below i (by omega) (by omega))) ?_
   refine rq_v rfl rfl rfl (fun _ => ov_neq rfl rfl rfl) ?_
   refine rq_nil (fun n3 => ?_)
   have hO5 := hO1.drewN n3
   generalize World.drewN w1 n3 = w4 at hO5 ⊢
   first | refine run_cond_dec rfl (fun c3 => ?_) (fun c3 => ?_) | refine run_cond rfl (fun c3 => ?_) (fun c3 => ?_)
   ·exfalso; exact c3 hei
   ·refine run_skip <| run_inBlock <| run_region <| rl_v rfl rfl rfl (ov_move rfl rfl) <| rl_v rfl rfl rfl (ov_add rfl rfl rfl (by omega)) ?_
    refine rl_v rfl rfl rfl (ov_assign rfl rfl) <| rl_nil ?_
    refine Run.use (ih2 (i + 1) _ ?_ ?_) (And.intro (by exact slot_int rfl (by first | omega)) (And.intro rfl (And.intro rfl trivial)))
    ·first | omega | (dsimp only; omega)
    ·exact ⟨by omega, hO5⟩
  ·refine run_exit rfl <| run_seq <| run_region <| rl_v rfl rfl rfl (ov_assign rfl rfl) <| rl_nil <| run_ret Try.func32 (res1 Try.results32 rfl) ?_
   exact ⟨rfl, hO1⟩
end Go.Proofs.Ytbepolognfdkeaa
