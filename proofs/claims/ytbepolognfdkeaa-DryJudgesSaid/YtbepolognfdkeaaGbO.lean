import Derived.Test.YtbepolognfdkeaaGbM
set_option maxRecDepth 100000
namespace Go.Proofs.Ytbepolognfdkeaa
open Go.RowKit Go.Proofs Go.MapKept
set_option maxHeartbeats 2000000 in
theorem least_any (g : Nat) (hcl : Callable Try.prog g) (cap : Array Value) (p : Int → Prop) [DecidablePred p] (K : Int) (K0 : 0 ≤ K) (K1 : K ≤ 1000000000000) (B : Nat) (w0 w : World) (H : List (Option Blk))
  (hIs : ∀ (n : Int) (w1 : World), 0 ≤ n → n ≤ 2 * K → Own B w0 w1 H → Calls Try.prog g (#[iv n] ++ cap) w1 fun e w' => e = .returned (.bool (decide (p n))) ∧ (¬ p n → n < K) ∧ Own w1.heap.size w1 w' []) (hO : Own B w0 w H) :
  Calls Try.prog 40 #[iv 0, .func (.func g) #[] cap] w fun e w' => ∃ n : Int, e = .returned (iv n) ∧ 0 ≤ n ∧ n ≤ 2 * K ∧ p n ∧ (n = 0 ∨ ¬ p (n - 1)) ∧ Own B w0 w' H := by
 refine calls_of_run (F := [(0, _), (1, _)]) Try.func40 rfl Try.ntmps40 rfl rfl <| run_seq <| run_region <| rl_v rfl rfl rfl (ov_assign rfl rfl) <| rl_nil <| run_seq <| run_region <| rl_v rfl rfl rfl (ov_move rfl rfl) <| rl_v rfl rfl rfl (ov_assign rfl rfl) <| rl_nil <| run_seq <| run_seq <| run_region <| rl_v rfl rfl rfl (ov_move rfl rfl) <| rl_v rfl rfl rfl (ov_assign rfl rfl) <| rl_nil <| run_block <| Run.keep [0, 1, 5, 6] (F' := [(0, _), (1, _), (5, _), (6, _)]) rfl <| run_loop3 (fun (lo : Int) (hi : Int) (st : Int) => [(0, .int .i64 lo), (5, .int .i64 hi), (6, .int .i64 st)]) [1] (fun (lo : Int) (hi : Int) (st : Int) (w1 : World) => 0 ≤ lo ∧ lo ≤ hi ∧ hi = st - 1 ∧ 1 ≤ st ∧ hi ≤ 2 * K ∧ (lo = 0 ∨ ¬ p (lo - 1)) ∧ Own B w0 w1 H) (fun (lo : Int) (hi : Int) (st : Int) => (2 * K + 1 - hi).toNat) (0) (0) (1) ?_ (And.intro (by exact slot_int rfl (by first | omega)) (And.intro (by exact slot_int rfl (by first | omega)) (And.intro (by exact slot_int rfl (by first | omega)) (And.intro rfl trivial)))) ?_
 ·exact ⟨Int.le_refl _, Int.le_refl _, rfl, Int.le_refl _, by omega, .inl rfl, hO⟩
 intro lo hi st w1 hIw1 ih2
 obtain ⟨hl0, hlh, hhs, hst, hh2, hnl, hO1⟩ := hIw1
 show Run _ _ _ _ [(0, _), (5, _), (6, _), (1, _)] _ _
 refine run_seq <| run_seq <| run_region <| rl_v rfl rfl rfl (ov_move rfl rfl) <| rl_v rfl rfl rfl (ov_move rfl rfl) ?_
 refine rl_call hcl rfl rfl rfl rfl rfl rfl (hIs hi _ (by omega) hh2 hO1) (fun e3 w4 hp5 => ?_)
 obtain ⟨rfl, hk2, hO2⟩ := hp5
 refine ⟨_, rfl, ?_⟩
 have hO6 := hO1.join hO2
 refine rl_v rfl rfl rfl (ov_not rfl rfl) <| rl_nil ?_
 first | refine run_cond_dec rfl (fun c1 => ?_) (fun c1 => ?_) | refine run_cond rfl (fun c1 => ?_) (fun c1 => ?_)
 ·have hnp : ¬ p hi := by simpa using c1
  have hhK : hi < K := hk2 hnp
  refine run_skip <| run_seq <| run_block <| run_region <| rl_v rfl rfl rfl (ov_move rfl rfl) <| rl_v rfl rfl rfl (ov_add rfl rfl rfl (by omega)) ?_
  refine rl_v rfl rfl rfl (ov_move rfl rfl) <| rl_v rfl rfl rfl (ov_move rfl rfl) <| rl_v rfl rfl rfl (ov_add rfl rfl rfl (by omega)) ?_
  refine rl_v rfl rfl rfl (ov_assign rfl rfl) <| rl_v rfl rfl rfl (ov_assign rfl rfl) <| rl_nil <| run_inBlock <| run_region <| rl_v rfl rfl rfl (ov_move rfl rfl) <| rl_v rfl rfl rfl (ov_mul rfl rfl rfl (by omega)) ?_
  refine rl_v rfl rfl rfl (ov_assign rfl rfl) <| rl_nil ?_
  refine Run.use (ih2 (hi + 1) (hi + st) (st * 2) _ ?_ ?_) (And.intro (by exact slot_int rfl (by first | omega)) (And.intro (by exact slot_int rfl (by first | omega)) (And.intro (by exact slot_int rfl (by first | omega)) (And.intro rfl trivial))))
  ·first | omega | (dsimp only; omega)
  ·exact ⟨by omega, by omega, by omega, by omega, by omega, .inr (by rw [show hi + 1 - 1 = hi by omega]; exact hnp), hO6⟩
 ·have hp : p hi := by simpa using c1
  refine run_exit rfl <| run_seq <| run_block <| Run.keep [0, 1, 5] (F' := [(0, _), (1, _), (5, _)]) rfl <| run_loop2 (fun (l2 : Int) (h2 : Int) => [(0, .int .i64 l2), (5, .int .i64 h2)]) [1] (fun (l2 : Int) (h2 : Int) (w7 : World) => 0 ≤ l2 ∧ l2 ≤ h2 ∧ h2 ≤ 2 * K ∧ p h2 ∧ (l2 = 0 ∨ ¬ p (l2 - 1)) ∧ Own B w0 w7 H) (fun (l2 : Int) (h2 : Int) => (h2 - l2).toNat) (lo) (hi) ?_ (And.intro (by exact slot_int rfl (by first | omega)) (And.intro (by exact slot_int rfl (by first | omega)) (And.intro rfl trivial))) ?_
  ·exact ⟨hl0, hlh, hh2, hp, hnl, hO6⟩
  intro l2 h2 w7 hIw7 ih8
  obtain ⟨gl0, glh, gh2, gp, gn, hO3⟩ := hIw7
  show Run _ _ _ _ [(0, _), (5, _), (1, _)] _ _
  refine run_seq <| run_seq <| run_region <| rl_v rfl rfl rfl (ov_move rfl rfl) <| rl_v rfl rfl rfl (ov_move rfl rfl) <| rl_v rfl rfl rfl (ov_lss rfl rfl rfl) <| rl_nil ?_
  first | refine run_cond_dec rfl (fun c2 => ?_) (fun c2 => ?_) | refine run_cond rfl (fun c2 => ?_) (fun c2 => ?_)
  ·refine run_skip <| run_block <| run_seq <| run_region <| rl_v rfl rfl rfl (ov_move rfl rfl) <| rl_v rfl rfl rfl (ov_move rfl rfl) <| rl_v rfl rfl rfl (ov_move rfl rfl) <| rl_v rfl rfl rfl (ov_sub rfl rfl rfl (by omega)) ?_
   refine rl_v rfl rfl rfl (ov_quo rfl rfl rfl ⟨by omega, by omega⟩ (by omega)) ?_
   refine rl_v rfl rfl rfl (ov_add rfl rfl rfl (by omega)) ?_
   refine rl_v rfl rfl rfl (ov_assign rfl rfl) <| rl_nil <| run_seq <| run_region <| rl_v rfl rfl rfl (ov_move rfl rfl) <| rl_v rfl rfl rfl (ov_move rfl rfl) ?_
   refine rl_call hcl rfl rfl rfl rfl rfl rfl (hIs (l2 + (h2 - l2) / 2) _ (by omega) (by omega) hO3) (fun e9 w10 hp11 => ?_)
   obtain ⟨rfl, hk4, hO4⟩ := hp11
   refine ⟨_, rfl, ?_⟩
   have hO12 := hO3.join hO4
   refine rl_nil ?_
   first | refine run_cond_dec rfl (fun c3 => ?_) (fun c3 => ?_) | refine run_cond rfl (fun c3 => ?_) (fun c3 => ?_)
   ·have hp3 : p (l2 + (h2 - l2) / 2) := by simpa using c3
    refine run_region <| rl_v rfl rfl rfl (ov_move rfl rfl) <| rl_v rfl rfl rfl (ov_assign rfl rfl) <| rl_nil <| run_inBlock ?_
    refine Run.use (ih8 (l2) (l2 + (h2 - l2) / 2) _ ?_ ?_) (And.intro (by exact slot_int rfl (by first | omega)) (And.intro (by exact slot_int rfl (by first | omega)) (And.intro rfl trivial)))
    ·first | omega | (dsimp only; omega)
    ·exact ⟨by omega, by omega, by omega, hp3, gn, hO12⟩
   ·have hp3 : ¬ p (l2 + (h2 - l2) / 2) := by simpa using c3
    refine run_region <| rl_v rfl rfl rfl (ov_move rfl rfl) <| rl_v rfl rfl rfl (ov_add rfl rfl rfl (by omega)) ?_
    refine rl_v rfl rfl rfl (ov_assign rfl rfl) <| rl_nil <| run_inBlock ?_
    refine Run.use (ih8 (l2 + (h2 - l2) / 2 + 1) (h2) _ ?_ ?_) (And.intro (by exact slot_int rfl (by first | omega)) (And.intro (by exact slot_int rfl (by first | omega)) (And.intro rfl trivial)))
    ·first | omega | (dsimp only; omega)
    ·exact ⟨by omega, by omega, by omega, gp, .inr (by rw [show l2 + (h2 - l2) / 2 + 1 - 1 = l2 + (h2 - l2) / 2 by omega]; exact hp3), hO12⟩
  ·have hlh2 : l2 = h2 := by omega
   rw [hlh2] at gn
   refine run_exit rfl <| run_seq <| run_region <| rl_v rfl rfl rfl (ov_move rfl rfl) <| rl_v rfl rfl rfl (ov_assign rfl rfl) <| rl_nil <| run_ret Try.func40 (res1 Try.results40 rfl) ?_
   exact ⟨h2, rfl, by omega, gh2, gp, gn, hO3⟩
theorem Kilns1_any (la : Option Addr) (lc tb : Nat) (l : Lds) (n : Int) (w0 w : World) (hn : l.n ≤ 256) (hF : l.Fit 1000000000) (hl : SAt w0.heap.size w0 la 4 l.n (ldF l)) (hn2 : 0 ≤ n ∧ n ≤ 1000) (hO : Own w0.heap.size w0 w [some (lch tb 27 [.slice la l.n lc])]) :
  Calls Try.prog 41 (#[iv n] ++ #[ptr tb]) w fun e w' => e = .returned (.bool (decide (l.Can n))) ∧ (¬ l.Can n → n < l.n) ∧ Own w.heap.size w w' [] := by
 have hq := hO.readsL 0 rfl
 have hll := hq.open
 have hl2 := hO.satU hl
 refine calls_of_run (F := [(0, _), (1, _)]) Try.func41 rfl Try.ntmps41 rfl rfl ?_
 have hO0 := Own.init w
 refine run_seq <| run_region <| rl_v rfl rfl rfl (ov_assign rfl rfl) <| rl_nil <| run_seq <| run_region <| rl_v rfl rfl rfl (ov_load rfl Try.underlying27 rfl rfl (by exact hll _ hO0.below rfl)) ?_
 refine rl_v rfl rfl rfl (ov_move rfl rfl) ?_
 refine rl_call callable_42 rfl rfl rfl rfl rfl rfl (fits_any la lc l n _ hn hF hn2 (hO0.satU hl2)) (fun e1 w2 hp3 => ?_)
 obtain ⟨rfl, hcr, hO1⟩ := hp3
 refine ⟨_, rfl, ?_⟩
 have hO4 := hO0.join hO1
 refine rl_v rfl rfl rfl (ov_assign rfl rfl) <| rl_nil <| run_ret Try.func41 (res1 Try.results41 rfl) ?_
 exact ⟨rfl, fun h => by obtain ⟨c, y, hc⟩ := hcr h; exact hc.lt_n hF, hO4⟩
structure KiO (l : Lds) (n : Int) : Prop where
 yes : l.chk = 0 → 0 ≤ n ∧ l.Can n ∧ (n = 0 ∨ ¬ l.Can (n - 1))
 no_ : l.chk ≠ 0 → n = 0
theorem Kilns_any (la : Option Addr) (lc : Nat) (l : Lds) (w : World) (hn : l.n ≤ 100000) (hI : l.I64) (hl : SAt w.heap.size w la 4 l.n (ldF l)) :
  Calls Try.prog 14 #[.slice la l.n lc] w fun e w' => ∃ n : Int, e = .returned (.tuple #[iv n, iv l.chk]) ∧ KiO l n ∧ Own w.heap.size w w' [] := by
 refine calls_of_run (F := [(0, _)]) Try.func14 rfl Try.ntmps14 rfl rfl ?_
 have hO0 := Own.init w
 refine run_seq <| run_region <| rl_ow rfl (ow_box _ rfl rfl rfl rfl rfl hO0) ?_
 rintro _ w1 ⟨tb, rfl, hO2, hs3⟩
 refine rl_v rfl rfl rfl (ov_assign rfl rfl) <| rl_v rfl rfl rfl (ov_assign rfl rfl) <| rl_nil <| run_seq <| run_seq <| run_region <| rl_v rfl rfl rfl (ov_load rfl Try.underlying27 rfl rfl (by exact hO2.cellL 0 rfl (off := 0) rfl)) ?_
 refine rl_call callable_39 rfl rfl rfl rfl rfl rfl (check7_any la lc l _ hn hI (hO2.satU hl)) (fun e4 w5 hp6 => ?_)
 obtain ⟨rfl, hO1⟩ := hp6
 refine ⟨_, rfl, ?_⟩
 have hO7 := hO2.join hO1
 refine rl_v rfl rfl rfl (ov_assign rfl rfl) <| rl_nil <| run_seq <| run_region <| rl_v rfl rfl rfl (ov_move rfl rfl) <| rl_v rfl rfl rfl (ov_neq rfl rfl rfl) <| rl_nil ?_
 first | refine run_cond_dec rfl (fun c1 => ?_) (fun c1 => ?_) | refine run_cond rfl (fun c1 => ?_) (fun c1 => ?_)
 ·refine run_seq <| run_region <| rl_v rfl rfl rfl (ov_move rfl rfl) <| rl_v rfl rfl rfl (ov_assign rfl rfl) <| rl_v rfl rfl rfl (ov_assign rfl rfl) <| rl_nil <| run_ret Try.func14 (res2 Try.results14 rfl rfl) ?_
  exact ⟨0, rfl, ⟨fun h => absurd h c1, fun _ => rfl⟩, hO7.tail⟩
 ·have c1' : l.chk = 0 := Classical.not_not.1 c1
  obtain ⟨h1, h2⟩ := Lds.of_chk c1'
  have h4 := h2.fit.mono (show (1000000 : Int) ≤ 1000000000 by decide)
  refine run_skip <| run_seq <| run_region <| rl_v rfl rfl rfl (ov_func rfl rfl rfl) ?_
  refine rl_call callable_40 rfl rfl rfl rfl rfl rfl (least_any 41 callable_41 #[ptr tb] (fun n => l.Can n) l.n (by omega) (by omega) w.heap.size w _ [some (lch tb 27 [.slice la l.n lc])] (fun n w1 n0 n1 hO => Kilns1_any la lc tb l n w w1 h1 h4 hl ⟨n0, by omega⟩ hO) hO7) (fun e8 w9 hp10 => ?_)
  obtain ⟨n, rfl, n0, n1, hp, hn2, hO2⟩ := hp10
  refine ⟨_, rfl, ?_⟩
  refine rl_v rfl rfl rfl (ov_assign rfl rfl) <| rl_v rfl rfl rfl (ov_assign rfl rfl) <| rl_nil <| run_ret Try.func14 (res2 Try.results14 rfl rfl) ?_
  exact ⟨n, by rw [c1'], ⟨fun _ => ⟨n0, hp, hn2⟩, fun h => absurd c1' h⟩, hO2.tail⟩
end Go.Proofs.Ytbepolognfdkeaa
