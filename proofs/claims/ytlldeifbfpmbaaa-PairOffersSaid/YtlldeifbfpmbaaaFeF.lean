import Derived.Test.YtlldeifbfpmbaaaFeE
set_option maxRecDepth 100000
namespace Go.Proofs.Ytlldeifbfpmbaaa
open Go.RowKit Go.Proofs Go.MapKept
theorem refStable_any (ga ba qa la : Option Addr) (gc bc qc ln lc : Nat) (f : Fair) (l : Int → Int) (w : World) (hV : Valid5 f f.m) (hF : FAg w.heap.size w ga ba qa f f.m) (hln : ln ≤ 1000000) (hl : IAt w.heap.size w la ln (fun i => iv (l i))) :
  Calls Try.prog 16 #[.agg #[.slice ga f.n gc, .slice ba f.m bc, .slice qa f.m qc], .slice la ln lc] w fun e w' => (∃ b, e = .returned (.bool b) ∧ (b = true ↔ ln = f.n ∧ f.Stab l)) ∧ Below w.heap.size w w' := by
 refine calls_of_run (F := [(0, _), (1, _)]) Try.func16 rfl Try.ntmps16 rfl rfl ?_
 have hO0 := Own.init w
 refine run_seq <| run_region <| rl_ow rfl (ow_box _ rfl rfl rfl rfl rfl hO0) ?_
 rintro _ w1 ⟨b2, rfl, hO2, hs3⟩
 refine rl_v rfl rfl rfl (ov_assign rfl rfl) <| rl_nil <| run_seq <| run_region <| rl_v rfl rfl rfl (ov_loadW rfl Try.underlying25 rfl (by kernel_rfl) rfl hO2 0 rfl) ?_
 refine rl_v rfl rfl rfl (ov_move rfl rfl) ?_
 refine rl_call callable_40 rfl rfl rfl rfl rfl rfl (refPossible_any ga ba qa la gc bc qc ln lc f l _ hV (hO2.fag hF) hln (hO2.iatF hl)) (fun e4 w5 hp6 => ?_)
 obtain ⟨⟨r, rfl, hr⟩, hb1⟩ := hp6
 refine ⟨_, rfl, ?_⟩
 have hO7 := hO2.past hb1
 refine rl_v rfl rfl rfl (ov_move rfl rfl) ?_
 first | refine rl_split_dec 8 rfl (fun q1 => ?_) (fun q1 => ?_) | refine rl_split 8 rfl (fun q1 => ?_) (fun q1 => ?_)
 ·refine rl_gv rfl rfl rfl rfl rfl (ov_loadW rfl Try.underlying25 rfl (by kernel_rfl) rfl hO7 0 rfl) ?_
  refine rl_gv rfl rfl rfl rfl rfl (ov_move rfl rfl) ?_
  have hp := hr.1 q1
  obtain rfl : ln = f.n := hp.1
  refine rl_gcall callable_45 rfl rfl rfl rfl rfl rfl rfl rfl (refBlocking_any ga ba qa la gc bc qc lc f l _ hV (hO7.fag hF) (hO7.iatF hl)) (fun e9 w10 hp11 => ?_)
  obtain ⟨v, c, rfl, hrv, hO1⟩ := hp11
  refine ⟨_, rfl, ?_⟩
  have hO12 := hO7.join hO1
  obtain ⟨va, vc, rfl⟩ := Row.val hrv
  have hnil := blkTo_nil (f := f) (l := l) f.n
  refine rl_gv rfl rfl rfl rfl rfl (ov_len rfl Try.underlying72 rfl) <| rl_gv rfl rfl rfl rfl rfl (ov_eql rfl rfl rfl) <| rl_v rfl rfl rfl (ov_pick_t rfl rfl rfl) <| rl_v rfl rfl rfl (ov_assign rfl rfl) <| rl_nil <| run_ret Try.func16 (res1 Try.results16 rfl) ?_
  exact ⟨⟨_, rfl, by rw [decide_eq_true_iff]; exact ⟨fun h => ⟨rfl, hp.2, fun g b g0 g1 b0 b1 => hnil.1 (List.length_eq_zero_iff.1 (by omega)) g b g0 g1 b0 b1⟩, fun h => by rw [hnil.2 fun i c i0 i1 c0 c1 => h.2.none i c i0 i1 c0 c1]; rfl⟩⟩, hO12.tail.tail.below⟩
 ·refine rl_gskip rfl rfl rfl rfl rfl rfl <| rl_gskip rfl rfl rfl rfl rfl rfl <| rl_gskip rfl rfl rfl rfl rfl rfl <| rl_gskip rfl rfl rfl rfl rfl rfl <| rl_gskip rfl rfl rfl rfl rfl rfl <| rl_v rfl rfl rfl (ov_pick_f rfl rfl rfl) <| rl_v rfl rfl rfl (ov_assign rfl rfl) <| rl_nil <| run_ret Try.func16 (res1 Try.results16 rfl) ?_
  exact ⟨⟨false, rfl, ⟨fun h => Bool.noConfusion h, fun h => by rw [hr.2 ⟨h.1, h.2.poss⟩] at q1; exact Bool.noConfusion q1⟩⟩, hO7.tail.below⟩
end Go.Proofs.Ytlldeifbfpmbaaa
