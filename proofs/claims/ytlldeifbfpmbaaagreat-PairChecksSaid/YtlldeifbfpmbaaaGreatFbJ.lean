import Derived.Test.YtlldeifbfpmbaaaGreatFbI
set_option maxRecDepth 100000
namespace Go.Proofs.YtlldeifbfpmbaaaGreat
open Go.RowKit Go.Proofs Go.MapKept
theorem FAg.fat {B : Nat} {w : World} {ga ba qa : Option Addr} {f : Fair} {nq : Nat} (h : FAg B w ga ba qa f nq) (e : nq = f.m) : FAt B w ga ba qa f := ⟨h.g, h.b, e ▸ h.q⟩
structure Lg5 (f : Fair) (nq : Nat) : Prop where
 n : f.n ≤ 1000000
 m : f.m ≤ 1000000
 q : nq ≤ 1000000
 gl : ∀ r : Int, 0 ≤ r → r < f.n → f.gl r ≤ 1000000
 bl : ∀ r : Int, 0 ≤ r → r < f.m → f.bl r ≤ 1000000
theorem Valid5.lg {f : Fair} {nq : Nat} (h : Valid5 f nq) : Lg5 f nq :=
 ⟨by have := h.sm.n; omega, by have := h.sm.m; omega, by have := h.sm.m; have := h.nq; omega, fun r r0 r1 => by have := h.sm.gl r r0 r1; omega, fun r r0 r1 => by have := h.sm.bl r r0 r1; omega⟩
section
variable (ga ba qa : Option Addr) (gc bc qc : Nat) (f : Fair) (w : World)
theorem growers_any (hV : Valid5 f f.m) (hF : FAg w.heap.size w ga ba qa f f.m) :
  Calls Tryz.prog 11 #[.agg #[.slice ga f.n gc, .slice ba f.m bc, .slice qa f.m qc]] w fun e w' => ∃ ob l, e = .returned (.tuple #[.slice (some ⟨ob, 0, none⟩) f.n f.n, iv 0]) ∧ Own w.heap.size w w' [some (vch ob 3 f.n (fun g => iv (l g)))] ∧ f.Best l := by
 have hlg := hV.lg
 refine calls_of_run (F := [(0, _)]) Tryz.func11 rfl Tryz.ntmps11 rfl rfl ?_
 have hO0 := Own.init w
 refine run_seq <| run_region <| rl_ow rfl (ow_box _ rfl rfl rfl rfl rfl hO0) ?_
 rintro _ w1 ⟨b1, rfl, hO2, hs3⟩
 refine rl_v rfl rfl rfl (ov_assign rfl rfl) <| rl_v rfl rfl rfl (ov_assign rfl rfl) <| rl_nil <| run_seq <| run_seq <| run_region <| rl_v rfl rfl rfl (ov_loadW rfl Tryz.underlying27 rfl (by kernel_rfl) rfl hO2 0 rfl) ?_
 refine rl_call callable_23 rfl rfl rfl rfl rfl rfl (check5_any ga ba qa gc bc qc f.m f _ hlg.n hlg.m hlg.q hlg.gl hlg.bl (hO2.fag hF)) (fun e4 w5 hp6 => ?_)
 obtain ⟨rfl, hbl⟩ := hp6
 refine ⟨_, rfl, ?_⟩
 have hO7 := hO2.past hbl
 have h0 := chkF_0.2 hV
 refine rl_v rfl rfl rfl (ov_assign rfl rfl) <| rl_nil <| run_seq <| run_region <| rl_v rfl rfl rfl (ov_move rfl rfl) <| rl_v rfl rfl rfl (ov_neq rfl rfl rfl) <| rl_nil ?_
 first | refine run_cond_dec rfl (fun h1 => ?_) (fun h1 => ?_) | refine run_cond rfl (fun h1 => ?_) (fun h1 => ?_)
 ·exfalso; exact h1 h0
 ·refine run_skip <| run_seq <| run_region <| rl_v rfl rfl rfl (ov_loadW rfl Tryz.underlying27 rfl (by kernel_rfl) rfl hO7 0 rfl) ?_
  refine rl_call callable_40 rfl rfl rfl rfl rfl rfl (newTables_any ga ba qa gc bc qc f _ hV.sm ((hO7.fag hF).fat rfl)) (fun e8 w9 hp10 => ?_)
  obtain ⟨tb, H1, rfl, hO1, hP⟩ := hp10
  refine ⟨_, rfl, ?_⟩
  have hO11 := hO7.join hO1
  refine rl_call callable_42 rfl rfl rfl rfl rfl rfl (offered_any tb f _ hV.ok hV.sm hP) (fun e12 w13 hp14 => ?_)
  obtain ⟨ob, l, nx, rfl, hO2, hD, hE⟩ := hp14
  refine ⟨_, rfl, ?_⟩
  have hO15 := hO11.join hO2
  refine rl_v rfl rfl rfl (ov_assign rfl rfl) <| rl_v rfl rfl rfl (ov_assign rfl rfl) <| rl_nil <| run_ret Tryz.func11 (res2 Tryz.results11 rfl rfl) ?_
  exact ⟨ob, l, rfl, hO15.sub (.cons_cons _ (List.nil_sublist _)), hD.isBest hV.ok hE⟩
theorem brewers_any (hV : Valid5 f f.m) (hF : FAg w.heap.size w ga ba qa f f.m) :
  Calls Tryz.prog 12 #[.agg #[.slice ga f.n gc, .slice ba f.m bc, .slice qa f.m qc]] w fun e w' => ∃ ob l nb, e = .returned (.tuple #[.slice (some ⟨ob, 0, none⟩) f.n f.n, iv 0]) ∧ Own w.heap.size w w' [some (vch ob 3 f.n (fun g => iv (l g)))] ∧ f.AS l nb ∧ ∀ b : Int, 0 ≤ b → b < f.m → Done f l nb b := by
 have hlg := hV.lg
 refine calls_of_run (F := [(0, _)]) Tryz.func12 rfl Tryz.ntmps12 rfl rfl ?_
 have hO0 := Own.init w
 refine run_seq <| run_region <| rl_ow rfl (ow_box _ rfl rfl rfl rfl rfl hO0) ?_
 rintro _ w1 ⟨b1, rfl, hO2, hs3⟩
 refine rl_v rfl rfl rfl (ov_assign rfl rfl) <| rl_v rfl rfl rfl (ov_assign rfl rfl) <| rl_nil <| run_seq <| run_seq <| run_region <| rl_v rfl rfl rfl (ov_loadW rfl Tryz.underlying27 rfl (by kernel_rfl) rfl hO2 0 rfl) ?_
 refine rl_call callable_23 rfl rfl rfl rfl rfl rfl (check5_any ga ba qa gc bc qc f.m f _ hlg.n hlg.m hlg.q hlg.gl hlg.bl (hO2.fag hF)) (fun e4 w5 hp6 => ?_)
 obtain ⟨rfl, hbl⟩ := hp6
 refine ⟨_, rfl, ?_⟩
 have hO7 := hO2.past hbl
 have h0 := chkF_0.2 hV
 refine rl_v rfl rfl rfl (ov_assign rfl rfl) <| rl_nil <| run_seq <| run_region <| rl_v rfl rfl rfl (ov_move rfl rfl) <| rl_v rfl rfl rfl (ov_neq rfl rfl rfl) <| rl_nil ?_
 first | refine run_cond_dec rfl (fun h1 => ?_) (fun h1 => ?_) | refine run_cond rfl (fun h1 => ?_) (fun h1 => ?_)
 ·exfalso; exact h1 h0
 ·refine run_skip <| run_seq <| run_region <| rl_v rfl rfl rfl (ov_loadW rfl Tryz.underlying27 rfl (by kernel_rfl) rfl hO7 0 rfl) ?_
  refine rl_call callable_40 rfl rfl rfl rfl rfl rfl (newTables_any ga ba qa gc bc qc f _ hV.sm ((hO7.fag hF).fat rfl)) (fun e8 w9 hp10 => ?_)
  obtain ⟨tb, H1, rfl, hO1, hP⟩ := hp10
  refine ⟨_, rfl, ?_⟩
  have hO11 := hO7.join hO1
  refine rl_call callable_43 rfl rfl rfl rfl rfl rfl (asked_any tb f _ hV.ok hV.sm hP) (fun e12 w13 hp14 => ?_)
  obtain ⟨ob, l, nb, rfl, hO2, hA, hE⟩ := hp14
  refine ⟨_, rfl, ?_⟩
  have hO15 := hO11.join hO2
  refine rl_v rfl rfl rfl (ov_assign rfl rfl) <| rl_v rfl rfl rfl (ov_assign rfl rfl) <| rl_nil <| run_ret Tryz.func12 (res2 Tryz.results12 rfl rfl) ?_
  exact ⟨ob, l, nb, rfl, hO15.sub (.cons_cons _ (List.nil_sublist _)), hA, hE⟩
end
end Go.Proofs.YtlldeifbfpmbaaaGreat
