import Derived.Test.YtlldeifbfpmbaaaGreatGcC
import Derived.Test.YtlldeifbfpmbaaaGreatGaQ
import Derived.Test.YtlldeifbfpmbaaaGreatGaT
set_option maxRecDepth 100000
namespace Go.Proofs.YtlldeifbfpmbaaaGreat
open Go.RowKit Go.Proofs Go.MapKept
noncomputable instance (l : Lds) : Decidable l.Short := Classical.propDecidable _
theorem areShort1_any (l : Lds) (i : Int) (w : World) : Calls Tryz.prog 119 (#[.agg (ldF l i).toArray] ++ #[]) w fun e w' => e = .returned (.bool (decide (l.len i ≠ 1))) ∧ Own w.heap.size w w' [] := by
 refine calls_of_run (F := [(0, _)]) Tryz.func119 rfl Tryz.ntmps119 rfl rfl ?_
 have hO0 := Own.init w
 refine run_seq <| run_region <| rl_ow rfl (ow_box _ rfl rfl rfl rfl rfl hO0) ?_
 rintro _ w1 ⟨b1, rfl, hO2, hs3⟩
 have hOb : Own w.heap.size w w1 [some (lch b1 104 (ldF l i))] := hO2
 refine rl_v rfl rfl rfl (ov_assign rfl rfl) <| rl_nil <| run_seq <| run_region <| rl_v rfl rfl rfl (ov_fieldS rfl Tryz.underlying104 rfl (fo := 2) rfl (by kernel_rfl) rfl) ?_
 refine rl_v rfl rfl rfl (ov_load rfl Tryz.underlying3 rfl rfl (by exact hOb.cellL 0 rfl (off := 2) rfl)) ?_
 refine rl_v rfl rfl rfl (ov_neq rfl rfl rfl) <| rl_v rfl rfl rfl (ov_assign rfl rfl) <| rl_nil <| run_ret Tryz.func119 (res1 Tryz.results119 rfl) ?_
 exact ⟨rfl, hOb.tail⟩
theorem indexFunc7_any (la : Option Addr) (lc : Nat) (l : Lds) (w : World) (hn : l.n ≤ 100000) (hl : SAt w.heap.size w la 4 l.n (ldF l)) :
  Calls Tryz.prog 132 #[.slice la l.n lc, .func (.func 119) #[] #[]] w fun e w' => ∃ r : Int, e = .returned (iv r) ∧ (0 ≤ r ↔ ¬ l.Short) ∧ Own w.heap.size w w' [] := by
 obtain ⟨lb, lo, hla, hlr⟩ := hl.open (by decide)
 refine calls_of_run (F := [(0, _), (1, _)]) Tryz.func132 rfl Tryz.ntmps132 rfl rfl ?_
 have hO0 := Own.init w
 refine run_seq <| run_region <| rl_v rfl rfl rfl (ov_assign rfl rfl) <| rl_nil <| run_seq <| run_seq <| run_region <| rl_v rfl rfl rfl (ov_move rfl rfl) <| rl_v rfl rfl rfl (ov_len rfl Tryz.underlying105 rfl) <| rl_v rfl rfl rfl (ov_move rfl rfl) <| rl_nil <| run_block <| Run.keep [0, 1, 7, 8] (F' := [(0, _), (1, _), (7, _), (8, _)]) rfl <| run_loop1 (fun (i : Nat) => [(8, .int .i64 (i : Int))]) [0, 1, 7] (fun (i : Nat) (w1 : World) => i ≤ l.n ∧ (∀ j : Int, 0 ≤ j → j < i → l.len j = 1) ∧ Own w.heap.size w w1 []) (fun (i : Nat) => l.n - i) (0) ?_ (And.intro (by exact slot_int rfl (by first | omega)) (And.intro rfl (And.intro rfl (And.intro rfl trivial)))) ?_
 ·exact ⟨Nat.zero_le _, fun j a b => by omega, hO0⟩
 intro i w1 hIw1 ih2
 obtain ⟨hi, hs, hO1⟩ := hIw1
 show Run _ _ _ _ [(8, _), (0, _), (1, _), (7, _)] _ _
 refine run_seq <| run_region <| rl_v rfl rfl rfl (ov_lss rfl rfl rfl) <| rl_nil <| run_seq ?_
 first | refine run_cond_dec rfl (fun c1 => ?_) (fun c1 => ?_) | refine run_cond rfl (fun c1 => ?_) (fun c1 => ?_)
 ·refine run_skip <| run_seq <| run_block <| run_seq <| run_region <| rl_v rfl rfl rfl (ov_move rfl rfl) <| rl_v rfl rfl rfl (ov_assign rfl rfl) <| rl_nil <| run_seq <| run_region <| rl_v rfl rfl rfl (ov_move rfl rfl) <| rl_v rfl rfl rfl (ov_move rfl rfl) <| rl_v rfl rfl rfl (ov_move rfl rfl) <| rl_v rfl rfl rfl (ov_index rfl Tryz.underlying105 (by kernel_rfl) (s := 4) rfl rfl ⟨by omega, by omega⟩ (by exact hla (by omega))) ?_
  refine rl_v rfl rfl rfl (ov_loadE rfl Tryz.underlying104 rfl (by kernel_rfl) rfl ⟨by omega, by omega⟩ rfl (hlr _ hO1.below)) ?_
  refine rl_call callable_119 rfl rfl rfl rfl rfl rfl (areShort1_any l i _) (fun e3 w4 hp5 => ?_)
  obtain ⟨rfl, hOa⟩ := hp5
  refine ⟨_, rfl, ?_⟩
  have hO6 := hO1.join hOa
  refine rl_nil ?_
  first | refine run_cond_dec rfl (fun c2 => ?_) (fun c2 => ?_) | refine run_cond rfl (fun c2 => ?_) (fun c2 => ?_)
  ·refine run_seq <| run_region <| rl_v rfl rfl rfl (ov_move rfl rfl) <| rl_v rfl rfl rfl (ov_assign rfl rfl) <| rl_nil <| run_ret Tryz.func132 (res1 Tryz.results132 rfl) ?_
   exact ⟨i, rfl, ⟨fun _ h => c2 (h i (by omega) c1), fun _ => by omega⟩, hO6⟩
  ·have hs2 : ∀ j : Int, 0 ≤ j → j < ((i + 1 : Nat) : Int) → l.len j = 1 := fun j j0 j1 => by
    by_cases e : j = (i : Int)
    ·rw [e]; exact Classical.not_not.1 c2
    ·exact hs j j0 (by omega)
   refine run_skip <| run_inBlock <| run_region <| rl_v rfl rfl rfl (ov_add rfl rfl rfl (by omega)) ?_
   refine rl_v rfl rfl rfl (ov_move rfl rfl) <| rl_nil ?_
   refine Run.use (ih2 (i + 1) _ ?_ ?_) (And.intro (by exact slot_int rfl (by first | omega)) (And.intro rfl (And.intro rfl (And.intro rfl trivial))))
   ·first | omega | (dsimp only; omega)
   ·exact ⟨by omega, hs2, hO6⟩
 ·have hsh : l.Short := fun j j0 j1 => hs j j0 (by omega)
  refine run_exit rfl <| run_seq <| run_region <| rl_v rfl rfl rfl (ov_assign rfl rfl) <| rl_nil <| run_ret Tryz.func132 (res1 Tryz.results132 rfl) ?_
  exact ⟨-1, rfl, ⟨fun h => by omega, fun h => absurd hsh h⟩, hO1⟩
theorem areShort_any (la : Option Addr) (lc : Nat) (l : Lds) (w : World) (hn : l.n ≤ 100000) (hl : SAt w.heap.size w la 4 l.n (ldF l)) :
  Calls Tryz.prog 92 #[.slice la l.n lc] w fun e w' => e = .returned (.bool (decide l.Short)) ∧ Own w.heap.size w w' [] := by
 have hcf : ∀ w : World, SAt w.heap.size w la 4 l.n (ldF l) → Calls Tryz.prog 118 #[.slice la l.n lc, .func (.func 119) #[] #[]] w fun e w' => e = .returned (.bool (decide (¬ l.Short))) ∧ Own w.heap.size w w' [] := fun w hl => by
  refine calls_of_run (F := [(0, _), (1, _)]) Tryz.func118 rfl Tryz.ntmps118 rfl rfl ?_
  have hO0 := Own.init w
  refine run_seq <| run_region <| rl_v rfl rfl rfl (ov_assign rfl rfl) <| rl_nil <| run_seq <| run_region <| rl_v rfl rfl rfl (ov_move rfl rfl) <| rl_v rfl rfl rfl (ov_move rfl rfl) ?_
  refine rl_call callable_132 rfl rfl rfl rfl rfl rfl (indexFunc7_any la lc l _ hn (hO0.satU hl)) (fun e1 w2 hp3 => ?_)
  obtain ⟨r, rfl, hr, hOa⟩ := hp3
  refine ⟨_, rfl, ?_⟩
  have hO4 := hO0.join hOa
  refine rl_v rfl rfl rfl (ov_geq rfl rfl rfl) <| rl_v rfl rfl rfl (ov_assign rfl rfl) <| rl_nil <| run_ret Tryz.func118 (res1 Tryz.results118 rfl) ?_
  exact ⟨by rw [decide_eq_decide.2 hr], hO4⟩
 refine calls_of_run (F := [(0, _)]) Tryz.func92 rfl Tryz.ntmps92 rfl rfl ?_
 have hO0 := Own.init w
 refine run_seq <| run_region <| rl_v rfl rfl rfl (ov_assign rfl rfl) <| rl_nil <| run_seq <| run_region <| rl_v rfl rfl rfl (ov_move rfl rfl) ?_
 refine rl_call callable_118 rfl rfl rfl rfl rfl rfl (hcf _ (hO0.satU hl)) (fun e1 w2 hp3 => ?_)
 obtain ⟨rfl, hOa⟩ := hp3
 refine ⟨_, rfl, ?_⟩
 have hO4 := hO0.join hOa
 refine rl_v rfl rfl rfl (ov_not rfl rfl) <| rl_v rfl rfl rfl (ov_assign rfl rfl) <| rl_nil <| run_ret Tryz.func92 (res1 Tryz.results92 rfl) ?_
 exact ⟨by by_cases h : l.Short <;> simp [h], hO4⟩
end Go.Proofs.YtlldeifbfpmbaaaGreat
set_option maxRecDepth 100000
namespace Go.Proofs.YtlldeifbfpmbaaaGreat
def grd (l : Lds) (k : Int) (Z : Int → Int) : Nat → Int → Prop
 | 0 => fun _ => False
 | p + 1 => fun i => grd l k Z p i ∨ (i = Z p ∧ CanM l k fun j => grd l k Z p j ∨ j = Z p)
def SrtW (l : Lds) (Z : Int → Int) : Prop := SrtS (fun i => -(l.wo i)) (fun i => i) l.n Z l.n
section
variable {l : Lds} {k : Int} {Z : Int → Int}
theorem SrtW.rng (h : SrtW l Z) {p : Int} (p0 : 0 ≤ p) (p1 : p < l.n) : 0 ≤ Z p ∧ Z p < l.n := by
 obtain ⟨a, ha, e⟩ := (h.same (Z p)).1 ⟨p, ⟨p0, p1⟩, rfl⟩
 have e' : a = Z p := e
 omega
theorem SrtW.ne (h : SrtW l Z) (a b : Int) (a0 : 0 ≤ a) (ab : a < b) (b1 : b < l.n) : Z a ≠ Z b := fun e => by
 have := h.srt a b a0 ab b1
 rw [e] at this
 exact lex_irr this
theorem grd_in : ∀ {p : Nat} {i : Int}, grd l k Z p i → ∃ q : Int, (0 ≤ q ∧ q < p) ∧ Z q = i
 | 0, i, h => h.elim
 | p + 1, i, h => by
  rcases h with h | h
  ·obtain ⟨q, hq, e⟩ := grd_in h
   exact ⟨q, by omega, e⟩
  ·exact ⟨p, by omega, h.1.symm⟩
end
end Go.Proofs.YtlldeifbfpmbaaaGreat
