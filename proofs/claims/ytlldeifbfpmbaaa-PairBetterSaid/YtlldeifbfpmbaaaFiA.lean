import Derived.Test.YtlldeifbfpmbaaaFbI
set_option maxRecDepth 100000
namespace Go.Proofs.Ytlldeifbfpmbaaa
open Go.RowKit Go.Proofs Go.MapKept
theorem FAg.fat {B : Nat} {w : World} {ga ba qa : Option Addr} {f : Fair} {nq : Nat} (h : FAg B w ga ba qa f nq) (e : nq = f.m) : FAt B w ga ba qa f := ⟨h.g, h.b, e ▸ h.q⟩
structure Lg5 (f : Fair) (nq : Nat) : Prop where
 n : f.n ≤ 1000000
 m : f.m ≤ 1000000
 q : nq ≤ 1000000
 gl : ∀ r : Int, 0 ≤ r → r < f.n → f.gl r ≤ 1000000
 bl : ∀ r : Int, 0 ≤ r → r < f.m → f.bl r ≤ 1000000
theorem Valid5.lg {f : Fair} {nq : Nat} (h : Valid5 f nq) : Lg5 f nq :=
 ⟨by have := h.sm.n; omega, by have := h.sm.m; omega, by have := h.sm.m; have := h.nq; omega, fun r r0 r1 => by have := h.sm.gl r r0 r1; omega, fun r r0 r1 => by have := h.sm.bl r r0 r1; omega⟩
section
variable (ga ba qa : Option Addr) (gc bc qc : Nat) (f : Fair) (w : World)
theorem growers_any (hV : Valid5 f f.m) (hF : FAg w.heap.size w ga ba qa f f.m) :
  Calls Try.prog 11 #[.agg #[.slice ga f.n gc, .slice ba f.m bc, .slice qa f.m qc]] w fun e w' => ∃ ob l, e = .returned (.tuple #[.slice (some ⟨ob, 0, none⟩) f.n f.n, iv 0]) ∧ Own w.heap.size w w' [some (vch ob 3 f.n (fun g => iv (l g)))] ∧ f.Best l := by
 have hlg := hV.lg
 refine calls_of_run (F := [(0, _)]) Try.func11 rfl Try.ntmps11 rfl rfl ?_
 have hO0 := Own.init w
 refine run_seq <| run_region <| rl_ow rfl (ow_box _ rfl rfl rfl rfl rfl hO0) ?_
 rintro _ w1 ⟨b1, rfl, hO2, hs3⟩
 refine rl_v rfl rfl rfl (ov_assign rfl rfl) <| rl_v rfl rfl rfl (ov_assign rfl rfl) <| rl_nil <| run_seq <| run_seq <| run_region <| rl_v rfl rfl rfl (ov_loadW rfl Try.underlying30 rfl (by kernel_rfl) rfl hO2 0 rfl) ?_
 refine rl_call callable_47 rfl rfl rfl rfl rfl rfl (check5_any ga ba qa gc bc qc f.m f _ hlg.n hlg.m hlg.q hlg.gl hlg.bl (hO2.fag hF)) (fun e4 w5 hp6 => ?_)
 obtain ⟨rfl, hbl⟩ := hp6
 refine ⟨_, rfl, ?_⟩
 have hO7 := hO2.past hbl
 have h0 := chkF_0.2 hV
 refine rl_v rfl rfl rfl (ov_assign rfl rfl) <| rl_nil <| run_seq <| run_region <| rl_v rfl rfl rfl (ov_move rfl rfl) <| rl_v rfl rfl rfl (ov_neq rfl rfl rfl) <| rl_nil ?_
 first | refine run_cond_dec rfl (fun h1 => ?_) (fun h1 => ?_) | refine run_cond rfl (fun h1 => ?_) (fun h1 => ?_)
 ·exfalso; exact h1 h0
 ·refine run_skip <| run_seq <| run_region <| rl_v rfl rfl rfl (ov_loadW rfl Try.underlying30 rfl (by kernel_rfl) rfl hO7 0 rfl) ?_
  refine rl_call callable_48 rfl rfl rfl rfl rfl rfl (newTables_any ga ba qa gc bc qc f _ hV.sm ((hO7.fag hF).fat rfl)) (fun e8 w9 hp10 => ?_)
  obtain ⟨tb, H1, rfl, hO1, hP⟩ := hp10
  refine ⟨_, rfl, ?_⟩
  have hO11 := hO7.join hO1
  refine rl_call callable_49 rfl rfl rfl rfl rfl rfl (offered_any tb f _ hV.ok hV.sm hP) (fun e12 w13 hp14 => ?_)
  obtain ⟨ob, l, nx, rfl, hO2, hD, hE⟩ := hp14
  refine ⟨_, rfl, ?_⟩
  have hO15 := hO11.join hO2
  refine rl_v rfl rfl rfl (ov_assign rfl rfl) <| rl_v rfl rfl rfl (ov_assign rfl rfl) <| rl_nil <| run_ret Try.func11 (res2 Try.results11 rfl rfl) ?_
  exact ⟨ob, l, rfl, hO15.sub (.cons_cons _ (List.nil_sublist _)), hD.isBest hV.ok hE⟩
theorem brewers_any (hV : Valid5 f f.m) (hF : FAg w.heap.size w ga ba qa f f.m) :
  Calls Try.prog 13 #[.agg #[.slice ga f.n gc, .slice ba f.m bc, .slice qa f.m qc]] w fun e w' => ∃ ob l nb, e = .returned (.tuple #[.slice (some ⟨ob, 0, none⟩) f.n f.n, iv 0]) ∧ Own w.heap.size w w' [some (vch ob 3 f.n (fun g => iv (l g)))] ∧ f.AS l nb ∧ ∀ b : Int, 0 ≤ b → b < f.m → Done f l nb b := by
 have hlg := hV.lg
 refine calls_of_run (F := [(0, _)]) Try.func13 rfl Try.ntmps13 rfl rfl ?_
 have hO0 := Own.init w
 refine run_seq <| run_region <| rl_ow rfl (ow_box _ rfl rfl rfl rfl rfl hO0) ?_
 rintro _ w1 ⟨b1, rfl, hO2, hs3⟩
 refine rl_v rfl rfl rfl (ov_assign rfl rfl) <| rl_v rfl rfl rfl (ov_assign rfl rfl) <| rl_nil <| run_seq <| run_seq <| run_region <| rl_v rfl rfl rfl (ov_loadW rfl Try.underlying30 rfl (by kernel_rfl) rfl hO2 0 rfl) ?_
 refine rl_call callable_47 rfl rfl rfl rfl rfl rfl (check5_any ga ba qa gc bc qc f.m f _ hlg.n hlg.m hlg.q hlg.gl hlg.bl (hO2.fag hF)) (fun e4 w5 hp6 => ?_)
 obtain ⟨rfl, hbl⟩ := hp6
 refine ⟨_, rfl, ?_⟩
 have hO7 := hO2.past hbl
 have h0 := chkF_0.2 hV
 refine rl_v rfl rfl rfl (ov_assign rfl rfl) <| rl_nil <| run_seq <| run_region <| rl_v rfl rfl rfl (ov_move rfl rfl) <| rl_v rfl rfl rfl (ov_neq rfl rfl rfl) <| rl_nil ?_
 first | refine run_cond_dec rfl (fun h1 => ?_) (fun h1 => ?_) | refine run_cond rfl (fun h1 => ?_) (fun h1 => ?_)
 ·exfalso; exact h1 h0
 ·refine run_skip <| run_seq <| run_region <| rl_v rfl rfl rfl (ov_loadW rfl Try.underlying30 rfl (by kernel_rfl) rfl hO7 0 rfl) ?_
  refine rl_call callable_48 rfl rfl rfl rfl rfl rfl (newTables_any ga ba qa gc bc qc f _ hV.sm ((hO7.fag hF).fat rfl)) (fun e8 w9 hp10 => ?_)
  obtain ⟨tb, H1, rfl, hO1, hP⟩ := hp10
  refine ⟨_, rfl, ?_⟩
  have hO11 := hO7.join hO1
  refine rl_call callable_50 rfl rfl rfl rfl rfl rfl (asked_any tb f _ hV.ok hV.sm hP) (fun e12 w13 hp14 => ?_)
  obtain ⟨ob, l, nb, rfl, hO2, hA, hE⟩ := hp14
  refine ⟨_, rfl, ?_⟩
  have hO15 := hO11.join hO2
  refine rl_v rfl rfl rfl (ov_assign rfl rfl) <| rl_v rfl rfl rfl (ov_assign rfl rfl) <| rl_nil <| run_ret Try.func13 (res2 Try.results13 rfl rfl) ?_
  exact ⟨ob, l, nb, rfl, hO15.sub (.cons_cons _ (List.nil_sublist _)), hA, hE⟩
end
end Go.Proofs.Ytlldeifbfpmbaaa
set_option maxRecDepth 100000
namespace Go.Proofs.Ytlldeifbfpmbaaa
open Go.RowKit Go.Proofs Go.MapKept
theorem rank5_any (ao : Option Addr) (n c : Nat) (X : Int → Int) (v : Int) (w : World) (hn : n ≤ 1000000) (h : IAt w.heap.size w ao n (fun i => iv (X i))) :
  Calls Try.prog 19 #[.slice ao n c, iv v] w fun e w' => e = .returned (iv (rk X n v)) ∧ Below w.heap.size w w' := by
 obtain ⟨gb, go, hga, hrow⟩ := h.open
 have hr := rk_rng X v n
 refine calls_of_run (F := [(0, _), (1, _)]) Try.func19 rfl Try.ntmps19 rfl rfl ?_
 have hO0 := Own.init w
 refine run_seq <| run_region <| rl_v rfl rfl rfl (ov_assign rfl rfl) <| rl_nil <| run_seq <| run_seq <| run_region <| rl_v rfl rfl rfl (ov_assign rfl rfl) <| rl_nil <| run_block <| Run.keep [0, 1, 5] (F' := [(0, _), (1, _), (5, _)]) rfl <| run_loop1 (fun (k : Int) => [(5, .int .i64 k)]) [0, 1] (fun (k : Int) (w1 : World) => 0 ≤ k ∧ k ≤ n ∧ k ≤ rk X n v ∧ Own w.heap.size w w1 []) (fun (k : Int) => ((n : Int) - k).toNat) (0) ?_ (And.intro (by exact slot_int rfl (by first | omega)) (And.intro rfl (And.intro rfl trivial))) ?_
 ·exact ⟨by omega, by omega, hr.1, hO0⟩
 intro k w1 hIw1 ih2
 obtain ⟨hk0, hk1, hall, hO⟩ := hIw1
 show Run _ _ _ _ [(5, _), (0, _), (1, _)] _ _
 refine run_seq <| run_seq <| run_region <| rl_v rfl rfl rfl (ov_move rfl rfl) <| rl_v rfl rfl rfl (ov_move rfl rfl) <| rl_v rfl rfl rfl (ov_len rfl Try.underlying23 rfl) <| rl_v rfl rfl rfl (ov_lss rfl rfl rfl) <| rl_nil ?_
 first | refine run_cond_dec rfl (fun h1 => ?_) (fun h1 => ?_) | refine run_cond rfl (fun h1 => ?_) (fun h1 => ?_)
 ·refine run_skip <| run_seq <| run_block <| run_seq <| run_region <| rl_v rfl rfl rfl (ov_move rfl rfl) <| rl_v rfl rfl rfl (ov_move rfl rfl) <| rl_v rfl rfl rfl (ov_index1 rfl Try.underlying23 (by kernel_rfl) rfl rfl ⟨by omega, by omega⟩ (by exact hga (by omega))) ?_
  refine rl_v rfl rfl rfl (ov_load rfl Try.underlying3 rfl rfl (by exact hrow _ hO.below _ (by omega) (by omega))) ?_
  refine rl_v rfl rfl rfl (ov_move rfl rfl) <| rl_v rfl rfl rfl (ov_eql rfl rfl rfl) <| rl_nil ?_
  first | refine run_cond_dec rfl (fun h2 => ?_) (fun h2 => ?_) | refine run_cond rfl (fun h2 => ?_) (fun h2 => ?_)
  ·have hr2 : rk X n v = k := Classical.byContradiction fun e => rk_ne (n := n) hk0 (by omega) h2
   refine run_seq <| run_region <| rl_v rfl rfl rfl (ov_move rfl rfl) <| rl_v rfl rfl rfl (ov_assign rfl rfl) <| rl_nil <| run_ret Try.func19 (res1 Try.results19 rfl) ?_
   exact ⟨by rw [hr2], hO.below⟩
  ·have hk' : k + 1 ≤ rk X n v := by
    have : rk X n v ≠ k := fun e => h2 (by have := rk_at (f := X) (n := n) (x := v) (by omega); rw [e] at this; exact this)
    omega
   refine run_skip <| run_inBlock <| run_region <| rl_v rfl rfl rfl (ov_move rfl rfl) <| rl_v rfl rfl rfl (ov_add rfl rfl rfl (by omega)) ?_
   refine rl_v rfl rfl rfl (ov_assign rfl rfl) <| rl_nil ?_
   refine Run.use (ih2 _ _ ?_ ?_) (And.intro (by rfl) (And.intro rfl (And.intro rfl trivial)))
   ·first | omega | (dsimp only; omega)
   ·exact ⟨by omega, by omega, hk', hO⟩
 ·have hr3 : rk X n v = n := by omega
  refine run_exit rfl <| run_seq <| run_region <| rl_v rfl rfl rfl (ov_move rfl rfl) <| rl_v rfl rfl rfl (ov_len rfl Try.underlying23 rfl) <| rl_v rfl rfl rfl (ov_assign rfl rfl) <| rl_nil <| run_ret Try.func19 (res1 Try.results19 rfl) ?_
  exact ⟨by rw [hr3], hO.below⟩
end Go.Proofs.Ytlldeifbfpmbaaa
set_option maxRecDepth 100000
namespace Go.Proofs.Ytlldeifbfpmbaaa
open Go.RowKit Go.Proofs Go.MapKept
def cnk (l : Int → Int) (k b : Int) : Int := sm (fun g => if l g = b then 1 else 0) k
end Go.Proofs.Ytlldeifbfpmbaaa
