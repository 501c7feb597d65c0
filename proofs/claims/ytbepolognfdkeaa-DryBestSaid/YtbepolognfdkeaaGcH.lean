import Derived.Test.YtbepolognfdkeaaGcG
set_option maxRecDepth 100000
namespace Go.Proofs.Ytbepolognfdkeaa
open Go.RowKit Go.Proofs Go.MapKept
noncomputable def gs7 (l : Lds) (k : Int) (Z : Int → Int) (p : Nat) (j : Int) : Bool := @decide (grd l k Z p j) (Classical.propDecidable _)
noncomputable def gm7 (l : Lds) (k : Int) (Z : Int → Int) (p : Nat) (j : Int) : Bool := @decide (grd l k Z p j ∨ j = Z p) (Classical.propDecidable _)
theorem gs7_iff {l : Lds} {k : Int} {Z : Int → Int} {p : Nat} {j : Int} : gs7 l k Z p j = true ↔ grd l k Z p j := by unfold gs7; exact @decide_eq_true_iff _ (Classical.propDecidable _)
theorem gm7_iff {l : Lds} {k : Int} {Z : Int → Int} {p : Nat} {j : Int} : gm7 l k Z p j = true ↔ (grd l k Z p j ∨ j = Z p) := by unfold gm7; exact @decide_eq_true_iff _ (Classical.propDecidable _)
theorem gm7_upd (l : Lds) (k : Int) (Z : Int → Int) (p : Nat) (j : Int) : upd (fun j => Value.bool (gs7 l k Z p j)) (Z p) (.bool true) j = .bool (gm7 l k Z p j) := by
 by_cases e : j = Z p
 ·rw [e, upd_same]; exact congrArg Value.bool (gm7_iff.2 (.inr rfl)).symm
 ·rw [upd_ne _ _ e]
  refine congrArg Value.bool ?_
  rw [Bool.eq_iff_iff, gs7_iff, gm7_iff]
  exact ⟨.inl, fun h => h.resolve_right e⟩
theorem gs7_yes {l : Lds} {k : Int} {Z : Int → Int} {p : Nat} (hc : CanM l k fun j => grd l k Z p j ∨ j = Z p) (j : Int) : gm7 l k Z p j = gs7 l k Z (p + 1) j := by
 rw [Bool.eq_iff_iff, gs7_iff, gm7_iff]
 exact ⟨fun h => h.imp id fun e => ⟨e, hc⟩, fun h => h.imp id fun e => e.1⟩
theorem gs7_no {l : Lds} {k : Int} {Z : Int → Int} {p : Nat} (hZ : SrtW l Z) (hp : p < l.n) (hc : ¬ CanM l k fun j => grd l k Z p j ∨ j = Z p) (j : Int) : upd (fun j => Value.bool (gm7 l k Z p j)) (Z p) (.bool false) j = .bool (gs7 l k Z (p + 1) j) := by
 by_cases e : j = Z p
 ·rw [e, upd_same]
  refine congrArg Value.bool ?_
  symm
  rw [← Bool.not_eq_true, gs7_iff]
  rintro (h | h)
  ·obtain ⟨q, hq, e⟩ := grd_in h
   exact hZ.ne q p hq.1 hq.2 (by omega) e
  ·exact hc h.2
 ·rw [upd_ne _ _ e]
  refine congrArg Value.bool ?_
  rw [Bool.eq_iff_iff, gs7_iff, gm7_iff]
  exact ⟨fun h => .inl (h.resolve_right e), fun h => .inl (h.resolve_right fun x => e x.1)⟩
set_option maxHeartbeats 8000000 in
theorem refBest_any (la : Option Addr) (lc : Nat) (l : Lds) (k : Int) (Z : Int → Int) (w : World) (hn : l.n ≤ 1000) (hV : l.Valid) (hk : 1 ≤ k ∧ k ≤ 1000) (hZ : SrtW l Z) (hl : SAt w.heap.size w la 4 l.n (ldF l)) :
  Calls Try.prog 31 #[.slice la l.n lc, iv k] w fun e w' => ∃ (ba : Option Addr) (bn bc : Nat) (Y : Int → Int) (cb : Option Blk), e = .returned (.tuple #[.slice ba bn bc, iv (sm (fun i => ind (grd l k Z l.n i) * l.wo i) l.n)]) ∧ IRow (.slice ba bn bc) 3 bn (fun i => iv (Y i)) cb ∧
   Rise bn Y ∧ (∀ i : Int, (∃ j : Int, (0 ≤ j ∧ j < bn) ∧ Y j = i) ↔ (0 ≤ i ∧ i < l.n) ∧ grd l k Z l.n i) ∧ Own w.heap.size w w' [cb] := by
 obtain ⟨lb, lo, hla, hlr⟩ := hl.open (by decide)
 refine calls_of_run (F := [(0, _), (1, _)]) Try.func31 rfl Try.ntmps31 rfl rfl ?_
 have hO0 := Own.init w
 refine run_seq <| run_region <| rl_v rfl rfl rfl (ov_assign rfl rfl) <| rl_v rfl rfl rfl (ov_assign rfl rfl) <| rl_nil <| run_seq <| Run.keep [0, 1] (F' := [(0, _), (1, _)]) rfl <| run_join2 (fun (b6 : Nat) (b7 : Nat) => [(6, .slice (some ⟨b6, 0, none⟩) l.n l.n), (7, .slice (some ⟨b7, 0, none⟩) l.n l.n)]) [0, 1] (fun (b6 : Nat) (b7 : Nat) (w1 : World) => Own w.heap.size w w1 [some (vch b6 4 l.n (fun _ => .bool false)), some (vch b7 4 l.n (fun _ => .bool false))]) (fun hk2 => ?_) ?_
 ·refine run_held (fun w' => Own w.heap.size w w' ([])) mixed ?_
  have hO4 := hO0.drew
  generalize World.drew w = w3 at hO4 ⊢
  have hS5 : Own w.heap.size w w3 ([]) := by exact hO4.sub (List.nil_sublist _)
  refine rh_v 0 rfl (by kernel_rfl) rfl rfl rfl hS5 (fun _ hS => ov_move rfl rfl) ?_
  refine rh_v 1 rfl (by kernel_rfl) rfl rfl rfl hS5 (fun _ hS => ov_len rfl Try.underlying22 rfl) ?_
  refine rh_v 3 rfl (by kernel_rfl) rfl rfl rfl hS5 (fun _ hS => ov_move rfl rfl) ?_
  refine rh_v 4 rfl (by kernel_rfl) rfl rfl rfl hS5 (fun _ hS => ov_len rfl Try.underlying22 rfl) ?_
  refine rh_any2 2 5 (by kernel_rfl) ?_ ?_
  ·refine rc_op rfl rfl (ow_make (l.n) rfl rfl rfl Try.underlying78 info_4 rfl hO4 rfl rfl (by rfl) (by rfl) ⟨by omega, by omega⟩) ?_
   rintro _ w6 ⟨b6, rfl, hO7, hs8⟩
   have hS9 : Own w.heap.size w w6 ([]) := by exact hO7.sub (List.nil_sublist _)
   refine ⟨hS9, ?_⟩
   refine rh_v 6 rfl (by kernel_rfl) rfl rfl rfl hS9 (fun _ hS => ov_assign rfl rfl) ?_
   refine rh_any1 5 (by kernel_rfl) ?_
   refine rc_op rfl rfl (ow_make (l.n) rfl rfl rfl Try.underlying78 info_4 rfl hO7 rfl rfl (by rfl) (by rfl) ⟨by omega, by omega⟩) ?_
   rintro _ w10 ⟨b7, rfl, hO11, hs12⟩
   have hS13 : Own w.heap.size w w10 ([]) := by exact hO11.sub (List.nil_sublist _)
   refine ⟨hS13, ?_⟩
   refine rh_v 7 rfl (by kernel_rfl) rfl rfl rfl hS13 (fun _ hS => ov_assign rfl rfl) ?_
   refine rh_done (by kernel_rfl) ?_
   refine Run.use (hk2 (b6) (b7) _ ?_) (And.intro rfl (And.intro rfl (And.intro rfl (And.intro rfl trivial))))
   exact hO11.perm (List.Perm.swap _ _ _)
  ·refine rc_op rfl rfl (ow_make (l.n) rfl rfl rfl Try.underlying78 info_4 rfl hO4 rfl rfl (by rfl) (by rfl) ⟨by omega, by omega⟩) ?_
   rintro _ w14 ⟨b7, rfl, hO15, hs16⟩
   have hS17 : Own w.heap.size w w14 ([]) := by exact hO15.sub (List.nil_sublist _)
   refine ⟨hS17, ?_⟩
   refine rh_any1 2 (by kernel_rfl) ?_
   refine rc_op rfl rfl (ow_make (l.n) rfl rfl rfl Try.underlying78 info_4 rfl hO15 rfl rfl (by rfl) (by rfl) ⟨by omega, by omega⟩) ?_
   rintro _ w18 ⟨b6, rfl, hO19, hs20⟩
   have hS21 : Own w.heap.size w w18 ([]) := by exact hO19.sub (List.nil_sublist _)
   refine ⟨hS21, ?_⟩
   refine rh_v 6 rfl (by kernel_rfl) rfl rfl rfl hS21 (fun _ hS => ov_assign rfl rfl) ?_
   refine rh_v 7 rfl (by kernel_rfl) rfl rfl rfl hS21 (fun _ hS => ov_assign rfl rfl) ?_
   refine rh_done (by kernel_rfl) ?_
   refine Run.use (hk2 (b6) (b7) _ ?_) (And.intro rfl (And.intro rfl (And.intro rfl (And.intro rfl trivial))))
   exact hO19
 ·intro b6 b7 w1 hJw1
  have hO1 := hJw1
  show Run _ _ _ _ [(6, _), (7, _), (0, _), (1, _)] _ _
  have hOs := (hO1.congrI 0 rfl (G' := fun j => .bool (gs7 l k Z 0 j)) (fun v _ _ => congrArg Value.bool (by symm; rw [← Bool.not_eq_true, gs7_iff]; exact fun h => h))).congrI 1 rfl (G' := fun j => .bool (sn7 Z ((0 : Nat) : Int) j)) (fun v _ _ => congrArg Value.bool (sn7_zero Z v).symm)
  refine run_seq <| run_seq <| run_region <| rl_v rfl rfl rfl (ov_assign rfl rfl) <| rl_nil <| run_block <| Run.keep [0, 1, 6, 7, 8] (F' := [(0, _), (1, _), (6, _), (7, _), (8, _)]) rfl <| run_loop1 (fun (p : Nat) => [(8, .int .i64 (p : Int))]) [0, 1, 6, 7] (fun (p : Nat) (w22 : World) => p ≤ l.n ∧ Own w.heap.size w w22 [some (vch b6 4 l.n (fun j => .bool (gs7 l k Z p j))), some (vch b7 4 l.n (fun j => .bool (sn7 Z p j)))]) (fun (p : Nat) => l.n - p) (0) ?_ (And.intro (by exact slot_int rfl (by first | omega)) (And.intro rfl (And.intro rfl (And.intro rfl (And.intro rfl trivial))))) ?_
  ·exact ⟨Nat.zero_le _, hOs⟩
  intro p w22 hIw22 ih23
  obtain ⟨hp, hO2⟩ := hIw22
  show Run _ _ _ _ [(8, _), (0, _), (1, _), (6, _), (7, _)] _ _
  refine run_seq <| run_seq <| run_region <| rl_v rfl rfl rfl (ov_move rfl rfl) <| rl_v rfl rfl rfl (ov_move rfl rfl) <| rl_v rfl rfl rfl (ov_len rfl Try.underlying22 rfl) <| rl_v rfl rfl rfl (ov_lss rfl rfl rfl) <| rl_nil ?_
  first | refine run_cond_dec rfl (fun c1 => ?_) (fun c1 => ?_) | refine run_cond rfl (fun c1 => ?_) (fun c1 => ?_)
  ·refine run_skip <| run_seq <| run_block <| run_seq <| run_region <| rl_v rfl rfl rfl (ov_assign rfl rfl) <| rl_nil <| run_seq <| run_seq <| run_region <| rl_v rfl rfl rfl (ov_assign rfl rfl) <| rl_nil <| run_block <| Run.keep [0, 1, 6, 7, 8, 9, 10] (F' := [(0, _), (1, _), (6, _), (7, _), (8, _), (9, _), (10, _)]) rfl <| run_loop2 (fun (i : Nat) (f : Int) => [(10, .int .i64 (i : Int)), (9, .int .i64 f)]) [0, 1, 6, 7, 8] (fun (i : Nat) (f : Int) (w24 : World) => i ≤ l.n ∧ ((f = -1 ∧ ∀ a : Int, 0 ≤ a → a < i → sn7 Z p a = true) ∨ ((0 ≤ f ∧ f < i) ∧ sn7 Z p f = false ∧ ∀ a : Int, 0 ≤ a → a < i → sn7 Z p a = false → a ≠ f → lex (fun i => -(l.wo i)) f a)) ∧ Own w.heap.size w w24 [some (vch b6 4 l.n (fun j => .bool (gs7 l k Z p j))), some (vch b7 4 l.n (fun j => .bool (sn7 Z p j)))]) (fun (i : Nat) (f : Int) => l.n - i) (0) (-1) ?_ (And.intro (by exact slot_int rfl (by first | omega)) (And.intro (by exact slot_int rfl (by first | omega)) (And.intro rfl (And.intro rfl (And.intro rfl (And.intro rfl (And.intro rfl trivial))))))) ?_
   ·exact ⟨Nat.zero_le _, .inl ⟨rfl, fun a b c => by omega⟩, hO2⟩
   intro i f w24 hIw24 ih25
   obtain ⟨hi, hB, hO3⟩ := hIw24
   show Run _ _ _ _ [(10, _), (9, _), (0, _), (1, _), (6, _), (7, _), (8, _)] _ _
   refine run_seq <| run_seq <| run_region <| rl_v rfl rfl rfl (ov_move rfl rfl) <| rl_v rfl rfl rfl (ov_move rfl rfl) <| rl_v rfl rfl rfl (ov_len rfl Try.underlying22 rfl) <| rl_v rfl rfl rfl (ov_lss rfl rfl rfl) <| rl_nil ?_
   first | refine run_cond_dec rfl (fun c2 => ?_) (fun c2 => ?_) | refine run_cond rfl (fun c2 => ?_) (fun c2 => ?_)
   ·have hfr : f = -1 ∨ (0 ≤ f ∧ f < l.n) := by
     rcases hB with a | a
     ·exact .inl a.1
     ·exact .inr (by omega)
    refine run_skip <| run_seq <| run_block <| run_seq ?_
    refine run_quiet_join mixed (by kernel_rfl) 55 (.bool (decide (sn7 Z p i = false ∧ (f < 0 ∨ l.wo f < l.wo i)))) [0, 1, 6, 7, 8, 9, 10] (fun hk26 => ?_) (fun n27 => ?_)
    ·refine rq_v rfl rfl rfl (fun _ => ov_move rfl rfl) ?_
     refine rq_v rfl rfl rfl (fun _ => ov_move rfl rfl) ?_
     refine rq_v rfl rfl rfl (fun _ => ov_index1 rfl Try.underlying78 (by kernel_rfl) rfl rfl ⟨by omega, by omega⟩ (by rfl)) ?_
     refine rq_v rfl rfl rfl (fun _ => ov_load rfl Try.underlying4 rfl rfl (by show World.cell? w24 _ = _; first | exact hO3.cellI 1 rfl i (by omega) c2)) ?_
     refine rq_v rfl rfl rfl (fun _ => ov_not rfl rfl) ?_
     refine rq_v rfl rfl rfl (fun _ => ov_move rfl rfl) ?_
     first | refine rq_split_dec 39 rfl (fun hg28 => ?_) (fun hg28 => ?_) | refine rq_split 39 rfl (fun hg28 => ?_) (fun hg28 => ?_)
     ·refine rq_gv rfl rfl rfl rfl rfl (fun _ => ov_move rfl rfl) ?_
      refine rq_gv rfl rfl rfl rfl rfl (fun _ => ov_lss rfl rfl rfl) ?_
      refine rq_gv rfl rfl rfl rfl rfl (fun _ => ov_move rfl rfl) ?_
      first | refine rq_split_dec 42 rfl (fun hg29 => ?_) (fun hg29 => ?_) | refine rq_split 42 rfl (fun hg29 => ?_) (fun hg29 => ?_)
      ·refine rq_gskip rfl rfl rfl rfl rfl rfl <| rq_gskip rfl rfl rfl rfl rfl rfl <| rq_gskip rfl rfl rfl rfl rfl rfl <| rq_gskip rfl rfl rfl rfl rfl rfl <| rq_gskip rfl rfl rfl rfl rfl rfl <| rq_gskip rfl rfl rfl rfl rfl rfl <| rq_gskip rfl rfl rfl rfl rfl rfl <| rq_gskip rfl rfl rfl rfl rfl rfl <| rq_gskip rfl rfl rfl rfl rfl rfl <| rq_gskip rfl rfl rfl rfl rfl rfl <| rq_gskip rfl rfl rfl rfl rfl rfl <| rq_gv rfl rfl rfl rfl rfl (fun _ => ov_pick_t rfl rfl rfl) ?_
       refine rq_v rfl rfl rfl (fun _ => ov_pick_t rfl rfl rfl) ?_
       refine rq_nil (fun n => hk26 n _ (jbt rfl (by grind)) (And.intro rfl (And.intro rfl (And.intro rfl (And.intro rfl (And.intro rfl (And.intro rfl (And.intro rfl trivial))))))))
      ·refine rq_gv rfl rfl rfl rfl rfl (fun _ => ov_move rfl rfl) ?_
       refine rq_gv rfl rfl rfl rfl rfl (fun _ => ov_move rfl rfl) ?_
       refine rq_gv rfl rfl rfl rfl rfl (fun _ => ov_index rfl Try.underlying22 (by kernel_rfl) (s := 4) rfl rfl ⟨by omega, by omega⟩ (by exact hla (by omega))) ?_
       refine rq_gv rfl rfl rfl rfl rfl (fun _ => ov_fieldS rfl Try.underlying72 rfl (fo := 3) rfl (by kernel_rfl) rfl) ?_
       refine rq_gv rfl rfl rfl rfl rfl (fun _ => ov_load rfl Try.underlying3 rfl rfl (by show World.cell? w24 _ = _; first | exact hlr _ hO3.below i (by omega) c2 3 (by decide))) ?_
       refine rq_gv rfl rfl rfl rfl rfl (fun _ => ov_move rfl rfl) ?_
       refine rq_gv rfl rfl rfl rfl rfl (fun _ => ov_move rfl rfl) ?_
       refine rq_gv rfl rfl rfl rfl rfl (fun _ => ov_index rfl Try.underlying22 (by kernel_rfl) (s := 4) rfl rfl ⟨by omega, by omega⟩ (by exact hla (by omega))) ?_
       refine rq_gv rfl rfl rfl rfl rfl (fun _ => ov_fieldS rfl Try.underlying72 rfl (fo := 3) rfl (by kernel_rfl) rfl) ?_
       refine rq_gv rfl rfl rfl rfl rfl (fun _ => ov_load rfl Try.underlying3 rfl rfl (by show World.cell? w24 _ = _; first | exact hlr _ hO3.below f (by omega) (by omega) 3 (by decide))) ?_
       refine rq_gv rfl rfl rfl rfl rfl (fun _ => ov_gtr rfl rfl rfl) ?_
       refine rq_gv rfl rfl rfl rfl rfl (fun _ => ov_pick_f rfl rfl rfl) ?_
       refine rq_v rfl rfl rfl (fun _ => ov_pick_t rfl rfl rfl) ?_
       refine rq_nil (fun n => hk26 n _ (jbd rfl (by grind)) (And.intro rfl (And.intro rfl (And.intro rfl (And.intro rfl (And.intro rfl (And.intro rfl (And.intro rfl trivial))))))))
     ·refine rq_gskip rfl rfl rfl rfl rfl rfl <| rq_gskip rfl rfl rfl rfl rfl rfl <| rq_gskip rfl rfl rfl rfl rfl rfl <| rq_gundef rfl rfl rfl rfl rfl <| rq_gundef rfl rfl rfl rfl rfl <| rq_gundef rfl rfl rfl rfl rfl <| rq_gundef rfl rfl rfl rfl rfl <| rq_gundef rfl rfl rfl rfl rfl <| rq_gundef rfl rfl rfl rfl rfl <| rq_gundef rfl rfl rfl rfl rfl <| rq_gundef rfl rfl rfl rfl rfl <| rq_gundef rfl rfl rfl rfl rfl <| rq_gundef rfl rfl rfl rfl rfl <| rq_gundef rfl rfl rfl rfl rfl <| rq_gskip rfl rfl rfl rfl rfl rfl <| rq_v rfl rfl rfl (fun _ => ov_pick_f rfl rfl rfl) ?_
      refine rq_nil (fun n => hk26 n _ (jbf rfl (by grind)) (And.intro rfl (And.intro rfl (And.intro rfl (And.intro rfl (And.intro rfl (And.intro rfl (And.intro rfl trivial))))))))
    ·have hO31 := hO3.drewN n27
     generalize World.drewN w24 n27 = w30 at hO31 ⊢
     show Run _ _ _ _ [(55, _), (0, _), (1, _), (6, _), (7, _), (8, _), (9, _), (10, _)] _ _
     first | refine run_cond_dec rfl (fun c3 => ?_) (fun c3 => ?_) | refine run_cond rfl (fun c3 => ?_) (fun c3 => ?_)
     ·have hB2 : ((i : Int) = -1 ∧ ∀ a : Int, 0 ≤ a → a < ((i + 1 : Nat) : Int) → sn7 Z p a = true) ∨ ((0 ≤ (i : Int) ∧ (i : Int) < ((i + 1 : Nat) : Int)) ∧ sn7 Z p i = false ∧ ∀ a : Int, 0 ≤ a → a < ((i + 1 : Nat) : Int) → sn7 Z p a = false → a ≠ i → lex (fun i => -(l.wo i)) i a) := by
       refine .inr ⟨by omega, c3.1, fun a a0 a1 ha hne => ?_⟩
       rcases hB with q | q
       ·rw [q.2 a a0 (by omega)] at ha; exact absurd ha (by decide)
       ·have h9 : l.wo f < l.wo i := by omega
        show -(l.wo i) < -(l.wo a) ∨ (-(l.wo i) = -(l.wo a) ∧ (i : Int) < a)
        by_cases e9 : a = f
        ·rw [e9]; omega
        ·have h8 : -(l.wo f) < -(l.wo a) ∨ (-(l.wo f) = -(l.wo a) ∧ f < a) := q.2.2 a a0 (by omega) ha e9
         omega
      refine run_region <| rl_v rfl rfl rfl (ov_move rfl rfl) <| rl_v rfl rfl rfl (ov_assign rfl rfl) <| rl_nil <| run_inBlock <| run_region <| rl_v rfl rfl rfl (ov_move rfl rfl) <| rl_v rfl rfl rfl (ov_add rfl rfl rfl (by omega)) ?_
      refine rl_v rfl rfl rfl (ov_assign rfl rfl) <| rl_nil ?_
      refine Run.use (ih25 (i + 1) ((i : Int)) _ ?_ ?_) (And.intro (by exact slot_int rfl (by first | omega)) (And.intro (by exact slot_int rfl (by first | omega)) (And.intro rfl (And.intro rfl (And.intro rfl (And.intro rfl (And.intro rfl trivial)))))))
      ·first | omega | (dsimp only; omega)
      ·exact ⟨by omega, hB2, hO31⟩
     ·have hB2 : (f = -1 ∧ ∀ a : Int, 0 ≤ a → a < ((i + 1 : Nat) : Int) → sn7 Z p a = true) ∨ ((0 ≤ f ∧ f < ((i + 1 : Nat) : Int)) ∧ sn7 Z p f = false ∧ ∀ a : Int, 0 ≤ a → a < ((i + 1 : Nat) : Int) → sn7 Z p a = false → a ≠ f → lex (fun i => -(l.wo i)) f a) := by
       rcases hB with q | q
       ·refine .inl ⟨q.1, fun a a0 a1 => ?_⟩
        by_cases e9 : a = (i : Int)
        ·rw [e9]
         exact Classical.byContradiction fun h9 => c3 ⟨by simpa using h9, .inl (by omega)⟩
        ·exact q.2 a a0 (by omega)
       ·refine .inr ⟨by omega, q.2.1, fun a a0 a1 ha hne => ?_⟩
        by_cases e9 : a = (i : Int)
        ·rw [e9] at ha ⊢
         have h9 : ¬ l.wo f < l.wo i := fun h9 => c3 ⟨ha, .inr h9⟩
         show -(l.wo f) < -(l.wo i) ∨ (-(l.wo f) = -(l.wo i) ∧ f < i)
         omega
        ·exact q.2.2 a a0 (by omega) ha hne
      refine run_skip <| run_inBlock <| run_region <| rl_v rfl rfl rfl (ov_move rfl rfl) <| rl_v rfl rfl rfl (ov_add rfl rfl rfl (by omega)) ?_
      refine rl_v rfl rfl rfl (ov_assign rfl rfl) <| rl_nil ?_
      refine Run.use (ih25 (i + 1) (f) _ ?_ ?_) (And.intro (by exact slot_int rfl (by first | omega)) (And.intro (by exact slot_int rfl (by first | omega)) (And.intro rfl (And.intro rfl (And.intro rfl (And.intro rfl (And.intro rfl trivial)))))))
      ·first | omega | (dsimp only; omega)
      ·exact ⟨by omega, hB2, hO31⟩
   ·have hin : i = l.n := by omega
    rw [hin] at hB
    have hzp := hZ.rng (p := p) (by omega) (by omega)
    have hun : sn7 Z p (Z p) = false := by
     rw [← Bool.not_eq_true, sn7_iff]
     rintro ⟨a, ha, e⟩
     exact hZ.ne a p ha.1 ha.2 (by omega) e
    have hfZ : f = Z p := by
     rcases hB with q | q
     ·rw [q.2 (Z p) hzp.1 hzp.2] at hun; exact absurd hun (by decide)
     ·refine Classical.byContradiction fun hne => ?_
      have h9 := q.2.2 (Z p) hzp.1 hzp.2 hun fun e => hne e.symm
      obtain ⟨a, ha, e⟩ := hZ.ex (i := f) q.1.1 q.1.2
      have hpa : (p : Int) < a := Classical.byContradiction fun hn => by
       by_cases e9 : a = (p : Int)
       ·rw [e9] at e; exact hne e.symm
       ·have : sn7 Z p f = true := sn7_iff.2 ⟨a, by omega, e⟩
        rw [q.2.1] at this
        exact absurd this (by decide)
      have h8 := hZ.srt p a (by omega) hpa ha.2
      rw [e] at h8
      exact lex_asymm h8 h9
    subst hfZ
    refine run_exit rfl <| run_seq <| run_region <| rl_v rfl rfl rfl (ov_move rfl rfl) <| rl_v rfl rfl rfl (ov_move rfl rfl) <| rl_v rfl rfl rfl (ov_index1 rfl Try.underlying78 (by kernel_rfl) rfl rfl ⟨by omega, by omega⟩ rfl) ?_
    refine rl_ow rfl (ow_store rfl rfl (by kernel_rfl) hO3 1 rfl rfl ⟨by omega, by omega⟩ rfl rfl) ?_
    rintro _ w32 ⟨rfl, hO33, hs34⟩
    refine rl_nil <| run_seq <| run_region <| rl_v rfl rfl rfl (ov_move rfl rfl) <| rl_v rfl rfl rfl (ov_move rfl rfl) <| rl_v rfl rfl rfl (ov_index1 rfl Try.underlying78 (by kernel_rfl) rfl rfl ⟨by omega, by omega⟩ rfl) ?_
    refine rl_ow rfl (ow_store rfl rfl (by kernel_rfl) hO33 0 rfl rfl ⟨by omega, by omega⟩ rfl rfl) ?_
    rintro _ w35 ⟨rfl, hO36, hs37⟩
    have hOs := (hO36.congrI 0 rfl (G' := fun j => .bool (gm7 l k Z p j)) (fun v _ _ => gm7_upd l k Z p v)).congrI 1 rfl (G' := fun j => .bool (sn7 Z ((p + 1 : Nat) : Int) j)) (fun v _ _ => (sn7_step Z p v).symm)
    refine rl_nil <| run_seq <| run_region <| rl_v rfl rfl rfl (ov_move rfl rfl) <| rl_v rfl rfl rfl (ov_move rfl rfl) <| rl_v rfl rfl rfl (ov_move rfl rfl) ?_
    refine rl_call callable_36 rfl rfl rfl rfl rfl rfl (refEarly_any la lc l k (some ⟨b6, 0, none⟩) l.n (fun j => gm7 l k Z p j) _ hn hV hk (hOs.satU hl) (hOs.reads 0 rfl l.n (Nat.le_refl _))) (fun e38 w39 hp40 => ?_)
    obtain ⟨ra, rn, rc, out, cr, rfl, _, _, _, hOf⟩ := hp40
    refine ⟨_, rfl, ?_⟩
    have hO41 := hOs.join hOf
    have hcm : CanM l k (fun i => gm7 l k Z p i = true) ↔ CanM l k fun j => grd l k Z p j ∨ j = Z p := CanM.congr fun i _ _ => gm7_iff
    refine rl_v rfl rfl rfl (ov_move rfl rfl) <| rl_v rfl rfl rfl (ov_extract rfl rfl (by rfl)) ?_
    refine rl_v rfl rfl rfl (ov_extract rfl rfl (by rfl)) ?_
    refine rl_v rfl rfl rfl (ov_assign rfl rfl) <| rl_v rfl rfl rfl (ov_assign rfl rfl) <| rl_nil <| run_seq <| run_region <| rl_v rfl rfl rfl (ov_move rfl rfl) <| rl_v rfl rfl rfl (ov_not rfl rfl) <| rl_nil ?_
    first | refine run_cond_dec rfl (fun c4 => ?_) (fun c4 => ?_) | refine run_cond rfl (fun c4 => ?_) (fun c4 => ?_)
    ·have hno : ¬ CanM l k fun j => grd l k Z p j ∨ j = Z p := fun h => by
      have := hcm.2 h
      simp [this] at c4
     refine run_region <| rl_v rfl rfl rfl (ov_move rfl rfl) <| rl_v rfl rfl rfl (ov_move rfl rfl) <| rl_v rfl rfl rfl (ov_index1 rfl Try.underlying78 (by kernel_rfl) rfl rfl ⟨by omega, by omega⟩ rfl) ?_
     refine rl_ow rfl (ow_store rfl rfl (by kernel_rfl) hO41 1 rfl rfl ⟨by omega, by omega⟩ rfl rfl) ?_
     rintro _ w42 ⟨rfl, hO43, hs44⟩
     have hOt := hO43.congrI 1 rfl (G' := fun j => .bool (gs7 l k Z (p + 1) j)) (fun v _ _ => gs7_no hZ (by omega) hno v)
     refine rl_nil <| run_inBlock <| run_region <| rl_v rfl rfl rfl (ov_move rfl rfl) <| rl_v rfl rfl rfl (ov_add rfl rfl rfl (by omega)) ?_
     refine rl_v rfl rfl rfl (ov_assign rfl rfl) <| rl_nil ?_
     refine Run.use (ih23 (p + 1) _ ?_ ?_) (And.intro (by exact slot_int rfl (by first | omega)) (And.intro rfl (And.intro rfl (And.intro rfl (And.intro rfl trivial)))))
     ·first | omega | (dsimp only; omega)
     ·exact ⟨by omega, hOt.tail⟩
    ·have hyes : CanM l k fun j => grd l k Z p j ∨ j = Z p := hcm.1 (by simpa using c4)
     have hOt := hO41.congrI 1 rfl (G' := fun j => .bool (gs7 l k Z (p + 1) j)) (fun v _ _ => congrArg Value.bool (gs7_yes hyes v))
     refine run_skip <| run_inBlock <| run_region <| rl_v rfl rfl rfl (ov_move rfl rfl) <| rl_v rfl rfl rfl (ov_add rfl rfl rfl (by omega)) ?_
     refine rl_v rfl rfl rfl (ov_assign rfl rfl) <| rl_nil ?_
     refine Run.use (ih23 (p + 1) _ ?_ ?_) (And.intro (by exact slot_int rfl (by first | omega)) (And.intro rfl (And.intro rfl (And.intro rfl (And.intro rfl trivial)))))
     ·first | omega | (dsimp only; omega)
     ·exact ⟨by omega, hOt.tail⟩
  ·have hpn : p = l.n := by omega
   have hOz := hO2.nil_cons
   rw [hpn] at hOz
   refine run_exit rfl <| run_seq <| run_region <| rl_v rfl rfl rfl (ov_assign rfl rfl) <| rl_nil <| run_seq <| run_region <| rl_v rfl rfl rfl (ov_assign rfl rfl) <| rl_nil <| run_seq <| run_seq <| run_region <| rl_v rfl rfl rfl (ov_assign rfl rfl) <| rl_nil <| run_block <| Run.keep [0, 6, 13, 14, 15] (F' := [(0, _), (6, _), (13, _), (14, _), (15, _)]) rfl <| run_loop3 (fun (j : Nat) (t : Int) (v : Value) => [(15, .int .i64 (j : Int)), (14, .int .i64 t), (13, v)]) [0, 6] (fun (j : Nat) (t : Int) (v : Value) (w45 : World) => j ≤ l.n ∧ ∃ (q : Nat) (Y : Int → Int) (cy : Option Blk), Pick (fun i => grd l k Z l.n i) j q Y ∧ t = sm (fun i => ind (grd l k Z l.n i) * l.wo i) j ∧ IRow v 3 q (fun i => iv (Y i)) cy ∧ Own w.heap.size w w45 [cy, some (vch b6 4 l.n (fun j => .bool (gs7 l k Z l.n j))), some (vch b7 4 l.n (fun j => .bool (sn7 Z (l.n : Int) j)))]) (fun (j : Nat) (t : Int) (v : Value) => l.n - j) (0) (0) (.slice none 0 0) ?_ (And.intro (by exact slot_int rfl (by first | omega)) (And.intro (by exact slot_int rfl (by first | omega)) (And.intro rfl (And.intro rfl (And.intro rfl trivial))))) ?_
   ·exact ⟨Nat.zero_le _, 0, fun _ => 0, none, Pick.nil _ _, rfl, IRow.nil _ _, hOz⟩
   intro j t v w45 hIw45 ih46
   obtain ⟨hj, q, Y, cy, hP, ht, hr, hOg⟩ := hIw45
   show Run _ _ _ _ [(15, _), (14, _), (13, _), (0, _), (6, _)] _ _
   have hqj := hP.le
   refine run_seq <| run_seq <| run_region <| rl_v rfl rfl rfl (ov_move rfl rfl) <| rl_v rfl rfl rfl (ov_move rfl rfl) <| rl_v rfl rfl rfl (ov_len rfl Try.underlying22 rfl) <| rl_v rfl rfl rfl (ov_lss rfl rfl rfl) <| rl_nil ?_
   first | refine run_cond_dec rfl (fun c5 => ?_) (fun c5 => ?_) | refine run_cond rfl (fun c5 => ?_) (fun c5 => ?_)
   ·have hvj := hV j (by omega) c5
    unfold Lds.Val at hvj
    have ht0 : 0 ≤ t := by rw [ht]; exact sm_nonneg fun i i0 i1 => Int.mul_nonneg (ind_rng _).1 (by have := hV i i0 (by omega); unfold Lds.Val at this; omega)
    have ht1 : t ≤ j * 1000000 := by
     rw [ht]
     refine sm_bound _ (by omega) fun i i0 i1 => ?_
     have := hV i i0 (by omega)
     unfold Lds.Val at this
     rcases ind_01z (grd l k Z l.n i) with e | e <;> (rw [e]; omega)
    refine run_skip <| run_seq <| run_block <| run_seq <| run_region <| rl_v rfl rfl rfl (ov_move rfl rfl) <| rl_v rfl rfl rfl (ov_move rfl rfl) <| rl_v rfl rfl rfl (ov_index1 rfl Try.underlying78 (by kernel_rfl) rfl rfl ⟨by omega, by omega⟩ rfl) ?_
    refine rl_v rfl rfl rfl (ov_load rfl Try.underlying4 rfl rfl (by exact hOg.cellI 1 rfl j (by omega) c5)) ?_
    refine rl_nil ?_
    first | refine run_cond_dec rfl (fun c6 => ?_) (fun c6 => ?_) | refine run_cond rfl (fun c6 => ?_) (fun c6 => ?_)
    ·have hg : grd l k Z l.n j := c6
     have hts : t + l.wo j = sm (fun i => ind (grd l k Z l.n i) * l.wo i) ((j + 1 : Nat) : Int) := by
      rw [show ((j + 1 : Nat) : Int) = (j : Int) + 1 by omega, sm_succ _ (by omega), ← ht, ind_t hg, Int.one_mul]
     refine run_seq <| run_region <| rl_v rfl rfl rfl (ov_move rfl rfl) <| rl_v rfl rfl rfl (ov_move rfl rfl) <| rl_ow rfl (ow_one rfl rfl rfl Try.underlying47 info_3 rfl hOg rfl rfl) ?_
     rintro _ w47 ⟨b87, rfl, hO48, hs49⟩
     refine rl_ow rfl (ow_app1 rfl rfl rfl Try.underlying47 info_3 rfl hO48 0 hr rfl rfl rfl rfl ⟨by omega, by omega⟩) ?_
     rintro _ w50 ⟨v88, c88, rfl, hO51, hr88, hs52⟩
     have hr89 : IRow v88 3 (q + 1) (fun i => iv (upd Y q j i)) c88 := hr88.congr fun i _ _ => by unfold upd; split <;> rfl
     refine rl_v rfl rfl rfl (ov_assign rfl rfl) <| rl_nil <| run_region <| rl_v rfl rfl rfl (ov_move rfl rfl) <| rl_v rfl rfl rfl (ov_move rfl rfl) <| rl_v rfl rfl rfl (ov_move rfl rfl) <| rl_v rfl rfl rfl (ov_index rfl Try.underlying22 (by kernel_rfl) (s := 4) rfl rfl ⟨by omega, by omega⟩ (by exact hla (by omega))) ?_
     refine rl_v rfl rfl rfl (ov_fieldS rfl Try.underlying72 rfl (fo := 3) rfl (by kernel_rfl) rfl) ?_
     refine rl_v rfl rfl rfl (ov_load rfl Try.underlying3 rfl rfl (by exact hlr _ hO51.below j (by omega) c5 3 (by decide))) ?_
     refine rl_v rfl rfl rfl (ov_add rfl rfl rfl (by omega)) ?_
     refine rl_v rfl rfl rfl (ov_assign rfl rfl) <| rl_nil <| run_inBlock <| run_region <| rl_v rfl rfl rfl (ov_move rfl rfl) <| rl_v rfl rfl rfl (ov_add rfl rfl rfl (by omega)) ?_
     refine rl_v rfl rfl rfl (ov_assign rfl rfl) <| rl_nil ?_
     refine Run.use (ih46 (j + 1) (t + l.wo j) (v88) _ ?_ ?_) (And.intro (by exact slot_int rfl (by first | omega)) (And.intro (by exact slot_int rfl (by first | omega)) (And.intro rfl (And.intro rfl (And.intro rfl trivial)))))
     ·first | omega | (dsimp only; omega)
     ·exact ⟨by omega, q + 1, upd Y q j, c88, hP.yes hg, hts, hr89, hO51⟩
    ·have hg : ¬ grd l k Z l.n j := c6
     have hts : t = sm (fun i => ind (grd l k Z l.n i) * l.wo i) ((j + 1 : Nat) : Int) := by
      rw [show ((j + 1 : Nat) : Int) = (j : Int) + 1 by omega, sm_succ _ (by omega), ← ht, ind_f hg, Int.zero_mul]; omega
     refine run_skip <| run_inBlock <| run_region <| rl_v rfl rfl rfl (ov_move rfl rfl) <| rl_v rfl rfl rfl (ov_add rfl rfl rfl (by omega)) ?_
     refine rl_v rfl rfl rfl (ov_assign rfl rfl) <| rl_nil ?_
     refine Run.use (ih46 (j + 1) (t) (v) _ ?_ ?_) (And.intro (by exact slot_int rfl (by first | omega)) (And.intro (by exact slot_int rfl (by first | omega)) (And.intro rfl (And.intro rfl (And.intro rfl trivial)))))
     ·first | omega | (dsimp only; omega)
     ·exact ⟨by omega, q, Y, cy, hP.no hg, hts, hr, hOg⟩
   ·have hjn : j = l.n := by omega
    rw [hjn] at hP ht
    obtain ⟨ya, yc, rfl⟩ := Row.val hr
    refine run_exit rfl <| run_seq <| run_region <| rl_v rfl rfl rfl (ov_move rfl rfl) <| rl_v rfl rfl rfl (ov_move rfl rfl) <| rl_v rfl rfl rfl (ov_assign rfl rfl) <| rl_v rfl rfl rfl (ov_assign rfl rfl) <| rl_nil <| run_ret Try.func31 (res2 Try.results31 rfl rfl) ?_
    exact ⟨ya, q, yc, Y, cy, by rw [ht], hr, hP.inc, hP.mem, hOg.sub (.cons_cons _ (List.nil_sublist _))⟩
end Go.Proofs.Ytbepolognfdkeaa
