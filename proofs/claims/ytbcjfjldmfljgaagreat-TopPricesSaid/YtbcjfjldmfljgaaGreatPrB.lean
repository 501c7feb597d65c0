import Derived.Test.YtbcjfjldmfljgaaGreatFoB
set_option maxRecDepth 100000
namespace Go.Proofs.YtbcjfjldmfljgaaGreat
open Go.RowKit Go.Proofs Go.MapKept
theorem isNaN64_any (x : Int) (w : World) : Calls Tryz.prog 108 #[iv x] w fun e w' => e = .returned (.bool false) ∧ Below w.heap.size w w' := by
 refine calls_of_run (F := [(0, _)]) Tryz.func108 rfl Tryz.ntmps108 rfl rfl ?_
 have hO0 := Own.init w
 refine run_seq <| run_region <| rl_v rfl rfl rfl (ov_assign rfl rfl) <| rl_nil <| run_seq <| run_region <| rl_v rfl rfl rfl (ov_move rfl rfl) <| rl_v rfl rfl rfl (ov_move rfl rfl) <| rl_v rfl rfl rfl (ov_neq rfl rfl rfl) <| rl_v rfl rfl rfl (ov_assign rfl rfl) <| rl_nil <| run_ret Tryz.func108 (res1 Tryz.results108 rfl) ?_
 exact ⟨by simp, hO0.below⟩
theorem less64_any (x y : Int) (w : World) : Calls Tryz.prog 100 #[iv x, iv y] w fun e w' => e = .returned (.bool (decide (x < y))) ∧ Below w.heap.size w w' := by
 refine calls_of_run (F := [(0, _), (1, _)]) Tryz.func100 rfl Tryz.ntmps100 rfl rfl ?_
 have hO0 := Own.init w
 refine run_seq <| run_region <| rl_v rfl rfl rfl (ov_assign rfl rfl) <| rl_nil <| run_seq <| run_region <| rl_v rfl rfl rfl (ov_move rfl rfl) ?_
 refine rl_call callable_108 rfl rfl rfl rfl rfl rfl (isNaN64_any x _) (fun e1 w2 hp3 => ?_)
 obtain ⟨rfl, hb1⟩ := hp3
 refine ⟨_, rfl, ?_⟩
 have hO4 := hO0.past hb1
 refine rl_v rfl rfl rfl (ov_move rfl rfl) ?_
 first | refine rl_noD 7 rfl (rfl) ?_ | refine rl_no 7 rfl (rfl) ?_
 refine rl_gskip rfl rfl rfl rfl rfl rfl <| rl_gskip rfl rfl rfl rfl rfl rfl <| rl_gskip rfl rfl rfl rfl rfl rfl <| rl_v rfl rfl rfl (ov_pick_f rfl rfl rfl) <| rl_v rfl rfl rfl (ov_move rfl rfl) <| rl_gv rfl rfl rfl rfl rfl (ov_move rfl rfl) <| rl_gv rfl rfl rfl rfl rfl (ov_move rfl rfl) <| rl_gv rfl rfl rfl rfl rfl (ov_lss rfl rfl rfl) <| rl_v rfl rfl rfl (ov_pick_f rfl rfl rfl) <| rl_v rfl rfl rfl (ov_assign rfl rfl) <| rl_nil <| run_ret Tryz.func100 (res1 Tryz.results100 rfl) ?_
 exact ⟨rfl, hO4.below⟩
structure SrtW5 (n : Nat) (X0 X : Int → Int) (G : Int → Value) : Prop where
 g : ∀ i : Int, 0 ≤ i → i < n → G i = iv (X i)
 same : ∀ v : Int, (∃ j : Int, (0 ≤ j ∧ j < n) ∧ X j = v) ↔ ∃ j : Int, (0 ≤ j ∧ j < n) ∧ X0 j = v
def SrtK5 (X : Int → Int) (i j : Int) : Prop := ∀ a b : Int, 0 ≤ a → a < b → b ≤ i → b ≠ j → X a ≤ X b
theorem SrtK5.done {X : Int → Int} {i j : Int} (h : SrtK5 X i j) (hj : j ≤ 0 ∨ X (j - 1) ≤ X j) : ∀ a b : Int, 0 ≤ a → a < b → b ≤ i → X a ≤ X b := fun a b a0 ab bi => by
 by_cases e : b = j
 ·rcases hj with hj | hj
  ·omega
  ·rw [e]
   by_cases e2 : a = j - 1
   ·rw [e2]; exact hj
   ·have := h a (j - 1) a0 (by omega) (by omega) (by omega)
    omega
 ·exact h a b a0 ab bi e
theorem SrtW5.swap {n : Nat} {X0 X : Int → Int} {G : Int → Value} (h : SrtW5 n X0 X G) {j : Int} (j0 : 0 < j) (j1 : j < n) : SrtW5 n X0 (upd (upd X j (X (j - 1))) (j - 1) (X j)) (upd (upd G j (iv (X (j - 1)))) (j - 1) (iv (X j))) := by
 have hval : ∀ i : Int, upd (upd X j (X (j - 1))) (j - 1) (X j) i = X (if i = j - 1 then j else if i = j then j - 1 else i) := fun i => by
  unfold upd
  by_cases e : i = j - 1
  ·rw [if_pos e, if_pos e]
  ·rw [if_neg e, if_neg e]
   by_cases e2 : i = j
   ·rw [if_pos e2, if_pos e2]
   ·rw [if_neg e2, if_neg e2]
 refine ⟨fun i i0 i1 => ?_, fun v => ?_⟩
 ·unfold upd
  split
  ·rfl
  ·split
   ·rfl
   ·exact h.g i i0 i1
 ·rw [← h.same v]
  constructor
  ·rintro ⟨i, ⟨i0, i1⟩, e⟩
   rw [hval] at e
   exact ⟨_, ⟨by split; omega; split <;> omega, by split; omega; split <;> omega⟩, e⟩
  ·rintro ⟨i, ⟨i0, i1⟩, e⟩
   refine ⟨if i = j - 1 then j else if i = j then j - 1 else i, ⟨by split; omega; split <;> omega, by split; omega; split <;> omega⟩, ?_⟩
   rw [hval, ← e]
   congr 1
   by_cases e1 : i = j - 1
   ·rw [if_pos e1, if_neg (by omega), if_pos rfl]; omega
   ·rw [if_neg e1]
    by_cases e2 : i = j
    ·rw [if_pos e2, if_pos rfl]; exact e2.symm
    ·rw [if_neg e2, if_neg e1, if_neg e2]
theorem SrtK5.swap {X : Int → Int} {i j : Int} (h : SrtK5 X i j) (j0 : 0 < j) (j1 : j ≤ i) (hlt : X j < X (j - 1)) : SrtK5 (upd (upd X j (X (j - 1))) (j - 1) (X j)) i (j - 1) := fun a b a0 ab bi hb => by
 have hval : ∀ i : Int, upd (upd X j (X (j - 1))) (j - 1) (X j) i = if i = j - 1 then X j else if i = j then X (j - 1) else X i := fun i => rfl
 rw [hval, hval, if_neg hb]
 by_cases e1 : b = j
 ·rw [if_pos e1]
  by_cases e2 : a = j - 1
  ·rw [if_pos e2]; exact Int.le_of_lt hlt
  ·rw [if_neg e2, if_neg (by omega)]; exact h a (j - 1) a0 (by omega) (by omega) (by omega)
 ·rw [if_neg e1]
  by_cases e2 : a = j - 1
  ·rw [if_pos e2]; exact h j b (by omega) (by omega) bi e1
  ·rw [if_neg e2]
   by_cases e3 : a = j
   ·rw [if_pos e3]; exact h (j - 1) b (by omega) (by omega) bi e1
   ·rw [if_neg e3]; exact h a b a0 ab bi e1
set_option maxHeartbeats 1600000 in
theorem insSort64_any (b cap n B : Nat) (G : Int → Value) (X0 : Int → Int) (w0 w : World) (H : List (Option Blk)) (hn : 1 ≤ n ∧ n ≤ 12) (hc : n ≤ cap) (hS : SrtW5 n X0 X0 G) (hO : Own B w0 w (some (vch b 2 cap G) :: H)) :
  Calls Tryz.prog 94 #[.slice (some ⟨b, 0, none⟩) n cap, iv 0, iv n] w fun e w' => e = .returned (.tuple #[]) ∧ ∃ (G' : Int → Value) (X : Int → Int), Own B w0 w' (some (vch b 2 cap G') :: H) ∧ SrtW5 n X0 X G' ∧ ∀ a b : Int, 0 ≤ a → a < b → b < n → X a ≤ X b := by
 refine calls_of_run (F := [(0, _), (1, _), (2, _)]) Tryz.func94 rfl Tryz.ntmps94 rfl rfl <| run_seq <| run_region <| rl_v rfl rfl rfl (ov_move rfl rfl) <| rl_v rfl rfl rfl (ov_add rfl rfl rfl (by omega)) ?_
 refine rl_v rfl rfl rfl (ov_assign rfl rfl) <| rl_nil <| run_block <| Run.keep [0, 1, 2, 6] (F' := [(0, _), (1, _), (2, _), (6, _)]) rfl <| run_loop1 (fun (i : Int) => [(6, .int .i64 i)]) [0, 1, 2] (fun (i : Int) (w1 : World) => 1 ≤ i ∧ i ≤ n ∧ ∃ (G : Int → Value) (X : Int → Int), SrtW5 n X0 X G ∧ (∀ a b : Int, 0 ≤ a → a < b → b < i → X a ≤ X b) ∧ Own B w0 w1 (some (vch b 2 cap G) :: H)) (fun (i : Int) => ((n : Int) - i).toNat) (1) ?_ (And.intro (by exact slot_int rfl (by first | omega)) (And.intro rfl (And.intro rfl (And.intro rfl trivial)))) ?_
 ·exact ⟨by omega, by omega, G, X0, hS, fun a b a0 ab b1 => by omega, hO⟩
 intro i w1 hIw1 ih2
 obtain ⟨hi0, hi1, G, X, hS, hs, hO⟩ := hIw1
 show Run _ _ _ _ [(6, _), (0, _), (1, _), (2, _)] _ _
 refine run_seq <| run_seq <| run_region <| rl_v rfl rfl rfl (ov_move rfl rfl) <| rl_v rfl rfl rfl (ov_move rfl rfl) <| rl_v rfl rfl rfl (ov_lss rfl rfl rfl) <| rl_nil ?_
 first | refine run_cond_dec rfl (fun c1 => ?_) (fun c1 => ?_) | refine run_cond rfl (fun c1 => ?_) (fun c1 => ?_)
 ·refine run_skip <| run_seq <| run_block <| run_seq <| run_region <| rl_v rfl rfl rfl (ov_move rfl rfl) <| rl_v rfl rfl rfl (ov_assign rfl rfl) <| rl_nil <| run_block <| Run.keep [0, 1, 2, 6, 7] (F' := [(0, _), (1, _), (2, _), (6, _), (7, _)]) rfl <| run_loop1 (fun (j : Int) => [(7, .int .i64 j)]) [0, 1, 2, 6] (fun (j : Int) (w3 : World) => 0 ≤ j ∧ j ≤ i ∧ ∃ (G : Int → Value) (X : Int → Int), SrtW5 n X0 X G ∧ SrtK5 X i j ∧ Own B w0 w3 (some (vch b 2 cap G) :: H)) (fun (j : Int) => j.toNat) (i) ?_ (And.intro (by exact slot_int rfl (by first | omega)) (And.intro rfl (And.intro rfl (And.intro rfl (And.intro rfl trivial))))) ?_
  ·exact ⟨by omega, by omega, G, X, hS, fun a b a0 ab bi hb => hs a b a0 ab (by omega), hO⟩
  intro j w3 hIw3 ih4
  obtain ⟨hj0, hj1, G, X, hS, hs, hO⟩ := hIw3
  show Run _ _ _ _ [(7, _), (0, _), (1, _), (2, _), (6, _)] _ _
  refine run_seq <| run_seq <| run_class (Cl5 B w0 (some (vch b 2 cap G) :: H)) (⟨hO.drew⟩) mixed (by kernel_rfl) ?_
  refine rk_v rfl rfl rfl (fun wq hQ => ov_move rfl rfl) ?_
  refine rk_v rfl rfl rfl (fun wq hQ => ov_move rfl rfl) ?_
  refine rk_v rfl rfl rfl (fun wq hQ => ov_gtr rfl rfl rfl) ?_
  refine rk_v rfl rfl rfl (fun wq hQ => ov_move rfl rfl) ?_
  first | refine rk_split_dec 19 rfl (fun g1 => ?_) (fun g1 => ?_) | refine rk_split 19 rfl (fun g1 => ?_) (fun g1 => ?_)
  ·refine rk_gv rfl rfl rfl rfl rfl (fun wq hQ => ov_move rfl rfl) ?_
   refine rk_gv rfl rfl rfl rfl rfl (fun wq hQ => ov_move rfl rfl) ?_
   refine rk_gv rfl rfl rfl rfl rfl (fun wq hQ => ov_index1 rfl Tryz.underlying22 (by kernel_rfl) rfl rfl ⟨by omega, by omega⟩ rfl) ?_
   refine rk_gv rfl rfl rfl rfl rfl (fun wq hQ => ov_load rfl Tryz.underlying2 rfl rfl (by exact ((hQ.own).cellI 0 rfl j (by omega) (by omega)).trans (congrArg some (hS.g j (by omega) (by omega))))) ?_
   refine rk_gv rfl rfl rfl rfl rfl (fun wq hQ => ov_move rfl rfl) ?_
   refine rk_gv rfl rfl rfl rfl rfl (fun wq hQ => ov_move rfl rfl) ?_
   refine rk_gv rfl rfl rfl rfl rfl (fun wq hQ => ov_sub rfl rfl rfl (by omega)) ?_
   refine rk_gv rfl rfl rfl rfl rfl (fun wq hQ => ov_index1 rfl Tryz.underlying22 (by kernel_rfl) rfl rfl ⟨by omega, by omega⟩ rfl) ?_
   refine rk_gv rfl rfl rfl rfl rfl (fun wq hQ => ov_load rfl Tryz.underlying2 rfl rfl (by exact ((hQ.own).cellI 0 rfl (j - 1) (by omega) (by omega)).trans (congrArg some (hS.g (j - 1) (by omega) (by omega))))) ?_
   refine rk_gcall callable_100 rfl rfl rfl rfl rfl rfl rfl rfl (fun wq hQ => (less64_any (X j) (X (j - 1)) _).mono fun _ _ h => ⟨h.1, ⟨(hQ.own).past h.2⟩⟩) ?_
   refine rk_v rfl rfl rfl (fun wq hQ => ov_pick_t rfl rfl rfl) ?_
   refine rk_nil (fun w9 hQ => ?_)
   first | refine run_cond_dec rfl (fun c2 => ?_) (fun c2 => ?_) | refine run_cond rfl (fun c2 => ?_) (fun c2 => ?_)
   ·refine run_skip <| run_seq <| run_block <| run_held (fun w' => Own B w0 w' (H)) mixed ?_
    have hO11 := (hQ.own).drew
    generalize World.drew w9 = w10 at hO11 ⊢
    have hS12 : Own B w0 w10 (H) := by exact hO11.tail
    refine rh_v 0 rfl (by kernel_rfl) rfl rfl rfl hS12 (fun _ hS => ov_move rfl rfl) ?_
    refine rh_v 1 rfl (by kernel_rfl) rfl rfl rfl hS12 (fun _ hS => ov_move rfl rfl) ?_
    refine rh_v 2 rfl (by kernel_rfl) rfl rfl rfl hS12 (fun _ hS => ov_move rfl rfl) ?_
    refine rh_v 3 rfl (by kernel_rfl) rfl rfl rfl hS12 (fun _ hS => ov_move rfl rfl) ?_
    refine rh_v 4 rfl (by kernel_rfl) rfl rfl rfl hS12 (fun _ hS => ov_sub rfl rfl rfl (by omega)) ?_
    refine rh_v 5 rfl (by kernel_rfl) rfl rfl rfl hS12 (fun _ hS => ov_move rfl rfl) ?_
    refine rh_v 6 rfl (by kernel_rfl) rfl rfl rfl hS12 (fun _ hS => ov_move rfl rfl) ?_
    refine rh_v 7 rfl (by kernel_rfl) rfl rfl rfl hS12 (fun _ hS => ov_sub rfl rfl rfl (by omega)) ?_
    refine rh_v 8 rfl (by kernel_rfl) rfl rfl rfl hS12 (fun _ hS => ov_index1 rfl Tryz.underlying22 (by kernel_rfl) rfl rfl ⟨by omega, by omega⟩ rfl) ?_
    refine rh_v 10 rfl (by kernel_rfl) rfl rfl rfl hS12 (fun _ hS => ov_move rfl rfl) ?_
    refine rh_v 11 rfl (by kernel_rfl) rfl rfl rfl hS12 (fun _ hS => ov_move rfl rfl) ?_
    refine rh_v 12 rfl (by kernel_rfl) rfl rfl rfl hS12 (fun _ hS => ov_index1 rfl Tryz.underlying22 (by kernel_rfl) rfl rfl ⟨by omega, by omega⟩ rfl) ?_
    refine rh_any2 9 13 (by kernel_rfl) ?_ ?_
    ·refine rc_op rfl rfl (ow_v rfl rfl (ov_load rfl Tryz.underlying2 rfl rfl (by exact (hO11.cellI 0 rfl (j - 1) (by omega) (by omega)).trans (congrArg some (hS.g (j - 1) (by omega) (by omega)))))) ?_
     rintro _ _ ⟨rfl, hw13⟩
     replace hw13 := hw13.symm; subst hw13
     refine ⟨hS12, ?_⟩
     refine rh_any1 13 (by kernel_rfl) ?_
     refine rc_op rfl rfl (ow_v rfl rfl (ov_load rfl Tryz.underlying2 rfl rfl (by exact (hO11.cellI 0 rfl j (by omega) (by omega)).trans (congrArg some (hS.g j (by omega) (by omega)))))) ?_
     rintro _ _ ⟨rfl, hw14⟩
     replace hw14 := hw14.symm; subst hw14
     refine ⟨hS12, ?_⟩
     refine rh_v 14 rfl (by kernel_rfl) rfl rfl rfl hS12 (fun _ hS => ov_index1 rfl Tryz.underlying22 (by kernel_rfl) rfl rfl ⟨by omega, by omega⟩ rfl) ?_
     refine rh_any1 15 (by kernel_rfl) ?_
     refine rc_op rfl rfl (ow_store rfl rfl (by kernel_rfl) hO11 0 rfl rfl ⟨by omega, by omega⟩ rfl rfl) ?_
     rintro _ w15 ⟨rfl, hO16, hs17⟩
     have hS18 : Own B w0 w15 (H) := by exact hO16.tail
     refine ⟨hS18, ?_⟩
     refine rh_v 16 rfl (by kernel_rfl) rfl rfl rfl hS18 (fun _ hS => ov_index1 rfl Tryz.underlying22 (by kernel_rfl) rfl rfl ⟨by omega, by omega⟩ rfl) ?_
     refine rh_any1 17 (by kernel_rfl) ?_
     refine rc_op rfl rfl (ow_store rfl rfl (by kernel_rfl) hO16 0 rfl rfl ⟨by omega, by omega⟩ rfl rfl) ?_
     rintro _ w19 ⟨rfl, hO20, hs21⟩
     have hS22 : Own B w0 w19 (H) := by exact hO20.tail
     refine ⟨hS22, ?_⟩
     refine rh_done (by kernel_rfl) ?_
     refine run_inBlock <| run_region <| rl_v rfl rfl rfl (ov_move rfl rfl) <| rl_v rfl rfl rfl (ov_sub rfl rfl rfl (by omega)) ?_
     refine rl_v rfl rfl rfl (ov_assign rfl rfl) <| rl_nil ?_
     refine Run.use (ih4 (j - 1) _ ?_ ?_) (And.intro (by exact slot_int rfl (by first | omega)) (And.intro rfl (And.intro rfl (And.intro rfl (And.intro rfl trivial)))))
     ·first | omega | (dsimp only; omega)
     ·exact ⟨by omega, by omega, _, _, hS.swap g1 (by omega), hs.swap g1 hj1 c2, hO20⟩
    ·refine rc_op rfl rfl (ow_v rfl rfl (ov_load rfl Tryz.underlying2 rfl rfl (by exact (hO11.cellI 0 rfl j (by omega) (by omega)).trans (congrArg some (hS.g j (by omega) (by omega)))))) ?_
     rintro _ _ ⟨rfl, hw23⟩
     replace hw23 := hw23.symm; subst hw23
     refine ⟨hS12, ?_⟩
     refine rh_any1 9 (by kernel_rfl) ?_
     refine rc_op rfl rfl (ow_v rfl rfl (ov_load rfl Tryz.underlying2 rfl rfl (by exact (hO11.cellI 0 rfl (j - 1) (by omega) (by omega)).trans (congrArg some (hS.g (j - 1) (by omega) (by omega)))))) ?_
     rintro _ _ ⟨rfl, hw24⟩
     replace hw24 := hw24.symm; subst hw24
     refine ⟨hS12, ?_⟩
     refine rh_v 14 rfl (by kernel_rfl) rfl rfl rfl hS12 (fun _ hS => ov_index1 rfl Tryz.underlying22 (by kernel_rfl) rfl rfl ⟨by omega, by omega⟩ rfl) ?_
     refine rh_any1 15 (by kernel_rfl) ?_
     refine rc_op rfl rfl (ow_store rfl rfl (by kernel_rfl) hO11 0 rfl rfl ⟨by omega, by omega⟩ rfl rfl) ?_
     rintro _ w25 ⟨rfl, hO26, hs27⟩
     have hS28 : Own B w0 w25 (H) := by exact hO26.tail
     refine ⟨hS28, ?_⟩
     refine rh_v 16 rfl (by kernel_rfl) rfl rfl rfl hS28 (fun _ hS => ov_index1 rfl Tryz.underlying22 (by kernel_rfl) rfl rfl ⟨by omega, by omega⟩ rfl) ?_
     refine rh_any1 17 (by kernel_rfl) ?_
     refine rc_op rfl rfl (ow_store rfl rfl (by kernel_rfl) hO26 0 rfl rfl ⟨by omega, by omega⟩ rfl rfl) ?_
     rintro _ w29 ⟨rfl, hO30, hs31⟩
     have hS32 : Own B w0 w29 (H) := by exact hO30.tail
     refine ⟨hS32, ?_⟩
     refine rh_done (by kernel_rfl) ?_
     refine run_inBlock <| run_region <| rl_v rfl rfl rfl (ov_move rfl rfl) <| rl_v rfl rfl rfl (ov_sub rfl rfl rfl (by omega)) ?_
     refine rl_v rfl rfl rfl (ov_assign rfl rfl) <| rl_nil ?_
     refine Run.use (ih4 (j - 1) _ ?_ ?_) (And.intro (by exact slot_int rfl (by first | omega)) (And.intro rfl (And.intro rfl (And.intro rfl (And.intro rfl trivial)))))
     ·first | omega | (dsimp only; omega)
     ·exact ⟨by omega, by omega, _, _, hS.swap g1 (by omega), hs.swap g1 hj1 c2, hO30⟩
   ·refine run_exit rfl <| run_inBlock <| run_region <| rl_v rfl rfl rfl (ov_move rfl rfl) <| rl_v rfl rfl rfl (ov_add rfl rfl rfl (by omega)) ?_
    refine rl_v rfl rfl rfl (ov_assign rfl rfl) <| rl_nil ?_
    refine Run.use (ih2 (i + 1) _ ?_ ?_) (And.intro (by exact slot_int rfl (by first | omega)) (And.intro rfl (And.intro rfl (And.intro rfl trivial))))
    ·first | omega | (dsimp only; omega)
    ·exact ⟨by omega, by omega, G, X, hS, fun a b a0 ab b1 => hs.done (.inr (by omega)) a b a0 ab (by omega), (hQ.own)⟩
  ·refine rk_gskip rfl rfl rfl rfl rfl rfl <| rk_gskip rfl rfl rfl rfl rfl rfl <| rk_gskip rfl rfl rfl rfl rfl rfl <| rk_gskip rfl rfl rfl rfl rfl rfl <| rk_gskip rfl rfl rfl rfl rfl rfl <| rk_gskip rfl rfl rfl rfl rfl rfl <| rk_gskip rfl rfl rfl rfl rfl rfl <| rk_gskip rfl rfl rfl rfl rfl rfl <| rk_gskip rfl rfl rfl rfl rfl rfl <| rk_gskip rfl rfl rfl rfl rfl rfl <| rk_v rfl rfl rfl (fun wq hQ => ov_pick_f rfl rfl rfl) ?_
   refine rk_nil (fun w33 hQ => ?_)
   refine run_cond_f rfl <| run_exit rfl <| run_inBlock <| run_region <| rl_v rfl rfl rfl (ov_move rfl rfl) <| rl_v rfl rfl rfl (ov_add rfl rfl rfl (by omega)) ?_
   refine rl_v rfl rfl rfl (ov_assign rfl rfl) <| rl_nil ?_
   refine Run.use (ih2 (i + 1) _ ?_ ?_) (And.intro (by exact slot_int rfl (by first | omega)) (And.intro rfl (And.intro rfl (And.intro rfl trivial))))
   ·first | omega | (dsimp only; omega)
   ·exact ⟨by omega, by omega, G, X, hS, fun a b a0 ab b1 => hs.done (.inl (by omega)) a b a0 ab (by omega), (hQ.own)⟩
 ·refine run_exit rfl <| run_end Tryz.func94 (res0 Tryz.results94) ?_
  exact ⟨rfl, G, X, hO, hS, fun a b a0 ab b1 => hs a b a0 ab (by omega)⟩
theorem pdq64_any (b cap n B lim : Nat) (G : Int → Value) (X0 : Int → Int) (w0 w : World) (H : List (Option Blk)) (hn : 1 ≤ n ∧ n ≤ 12) (hc : n ≤ cap) (hS : SrtW5 n X0 X0 G) (hO : Own B w0 w (some (vch b 2 cap G) :: H)) :
  Calls Tryz.prog 85 #[.slice (some ⟨b, 0, none⟩) n cap, iv 0, iv n, iv lim] w fun e w' => e = .returned (.tuple #[]) ∧ ∃ (G' : Int → Value) (X : Int → Int), Own B w0 w' (some (vch b 2 cap G') :: H) ∧ SrtW5 n X0 X G' ∧ ∀ a b : Int, 0 ≤ a → a < b → b < n → X a ≤ X b := by
 refine calls_of_run (F := [(0, _), (1, _), (2, _), (3, _)]) Tryz.func85 rfl Tryz.ntmps85 rfl rfl <| run_seq <| run_region <| rl_v rfl rfl rfl (ov_assign rfl rfl) <| rl_nil <| run_seq <| run_region <| rl_v rfl rfl rfl (ov_assign rfl rfl) <| rl_nil <| run_block <| run_once <| run_block <| run_seq <| run_region <| rl_v rfl rfl rfl (ov_move rfl rfl) <| rl_v rfl rfl rfl (ov_move rfl rfl) <| rl_v rfl rfl rfl (ov_sub rfl rfl rfl (by omega)) ?_
 refine rl_v rfl rfl rfl (ov_assign rfl rfl) <| rl_nil <| run_seq <| run_seq <| run_region <| rl_v rfl rfl rfl (ov_move rfl rfl) <| rl_v rfl rfl rfl (ov_leq rfl rfl rfl) <| rl_nil ?_
 first | refine run_cond_dec rfl (fun hc1 => ?_) (fun hc1 => ?_) | refine run_cond rfl (fun hc1 => ?_) (fun hc1 => ?_)
 ·refine run_seq <| run_region <| rl_v rfl rfl rfl (ov_move rfl rfl) <| rl_v rfl rfl rfl (ov_move rfl rfl) <| rl_v rfl rfl rfl (ov_move rfl rfl) ?_
  refine rl_call callable_94 rfl rfl rfl rfl rfl rfl (insSort64_any b cap n B G X0 w0 _ H hn hc hS hO) (fun e2 w3 hp4 => ?_)
  obtain ⟨rfl, G', X, hO2, h2, h3⟩ := hp4
  refine ⟨_, rfl, ?_⟩
  refine rl_nil <| run_ret Tryz.func85 (res0 Tryz.results85) ?_
  exact ⟨rfl, G', X, hO2, h2, h3⟩
 ·exfalso; omega
theorem sort64_any (b cap n B : Nat) (G : Int → Value) (X0 : Int → Int) (w0 w : World) (H : List (Option Blk)) (hn : 1 ≤ n ∧ n ≤ 12) (hc : n ≤ cap) (hS : SrtW5 n X0 X0 G) (hO : Own B w0 w (some (vch b 2 cap G) :: H)) :
  Calls Tryz.prog 67 #[.slice (some ⟨b, 0, none⟩) n cap] w fun e w' => e = .returned (.tuple #[]) ∧ ∃ (G' : Int → Value) (X : Int → Int), Own B w0 w' (some (vch b 2 cap G') :: H) ∧ SrtW5 n X0 X G' ∧ ∀ a b : Int, 0 ≤ a → a < b → b < n → X a ≤ X b := by
 refine calls_of_run (F := [(0, _)]) Tryz.func67 rfl Tryz.ntmps67 rfl rfl <| run_seq <| run_region <| rl_v rfl rfl rfl (ov_move rfl rfl) <| rl_v rfl rfl rfl (ov_len rfl Tryz.underlying22 rfl) <| rl_v rfl rfl rfl (ov_assign rfl rfl) <| rl_nil <| run_region <| rl_v rfl rfl rfl (ov_move rfl rfl) <| rl_v rfl rfl rfl (ov_move rfl rfl) <| rl_v rfl rfl rfl (ov_move rfl rfl) <| rl_v rfl rfl rfl (ov_convTo ((show IntKind.u64.wrap (n : Int) = (n : Int) from IntWalk.u64_in _ (by omega))) rfl Tryz.underlying3 Tryz.underlying23 rfl) ?_
 refine rl_call callable_34 rfl rfl rfl rfl rfl rfl (bitsLen_any n _ (by omega) (by omega)) (fun e1 w2 hp3 => ?_)
 obtain ⟨⟨lim, rfl, hlim⟩, hb1⟩ := hp3
 refine ⟨_, rfl, ?_⟩
 have hO4 := hO.past hb1
 refine rl_call callable_85 rfl rfl rfl rfl rfl rfl (pdq64_any b cap n B lim G X0 w0 _ H hn hc hS hO4) (fun e5 w6 hp7 => ?_)
 obtain ⟨rfl, G', X, hO2, h2, h3⟩ := hp7
 refine ⟨_, rfl, ?_⟩
 refine rl_nil <| run_end Tryz.func67 (res0 Tryz.results67) ?_
 exact ⟨rfl, G', X, hO2, h2, h3⟩
end Go.Proofs.YtbcjfjldmfljgaaGreat
