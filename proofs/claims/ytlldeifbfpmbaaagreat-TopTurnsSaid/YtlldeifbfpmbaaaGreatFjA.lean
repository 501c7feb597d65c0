import Derived.Test.YtlldeifbfpmbaaaGreatFiC
import Derived.Test.YtlldeifbfpmbaaaGreatGow
import Derived.Laws.StructEq
set_option maxRecDepth 100000
namespace Go.Proofs.YtlldeifbfpmbaaaGreat
open Go.RowKit Go.Proofs Go.MapKept
theorem stable5_any (tb : Nat) (la : Option Addr) (ln lc : Nat) (f : Fair) (l : Int → Int) (w : World) (hV : Valid5 f f.m) (hP : PT w.heap.size w tb f) (hln : ln ≤ 1000000) (hl : IAt w.heap.size w la ln (fun i => iv (l i))) :
  Calls Tryz.prog 56 #[ptr tb, .slice la ln lc] w fun e w' => (∃ b, e = .returned (.bool b) ∧ (b = true ↔ ln = f.n ∧ f.Stab l)) ∧ Below w.heap.size w w' := by
 refine calls_of_run (F := [(0, _), (1, _)]) Tryz.func56 rfl Tryz.ntmps56 rfl rfl ?_
 have hO0 := Own.init w
 refine run_seq <| run_region <| rl_v rfl rfl rfl (ov_assign rfl rfl) <| rl_nil <| run_seq <| run_region <| rl_v rfl rfl rfl (ov_move rfl rfl) <| rl_v rfl rfl rfl (ov_move rfl rfl) ?_
 refine rl_call callable_53 rfl rfl rfl rfl rfl rfl (possible5_any tb la ln lc f l _ hV (hO0.pt hP) hln (hO0.iatF hl)) (fun e1 w2 hp3 => ?_)
 obtain ⟨⟨r, rfl, hr⟩, hb1⟩ := hp3
 refine ⟨_, rfl, ?_⟩
 have hO4 := hO0.past hb1
 refine rl_v rfl rfl rfl (ov_move rfl rfl) ?_
 first | refine rl_split_dec 8 rfl (fun q1 => ?_) (fun q1 => ?_) | refine rl_split 8 rfl (fun q1 => ?_) (fun q1 => ?_)
 ·refine rl_gv rfl rfl rfl rfl rfl (ov_move rfl rfl) <| rl_gv rfl rfl rfl rfl rfl (ov_move rfl rfl) ?_
  have hp := hr.1 q1
  obtain rfl : ln = f.n := hp.1
  refine rl_gcall callable_54 rfl rfl rfl rfl rfl rfl rfl rfl (blocking5_any tb la lc f l _ hV (hO4.pt hP) (hO4.iatF hl) hp.2) (fun e6 w7 hp8 => ?_)
  obtain ⟨v, c, rfl, hrv, hO1⟩ := hp8
  refine ⟨_, rfl, ?_⟩
  have hO9 := hO4.join hO1
  obtain ⟨va, vc, rfl⟩ := Row.val hrv
  have hnil := blkTo_nil (f := f) (l := l) f.n
  refine rl_gv rfl rfl rfl rfl rfl (ov_len rfl Tryz.underlying41 rfl) <| rl_gv rfl rfl rfl rfl rfl (ov_eql rfl rfl rfl) <| rl_v rfl rfl rfl (ov_pick_t rfl rfl rfl) <| rl_v rfl rfl rfl (ov_assign rfl rfl) <| rl_nil <| run_ret Tryz.func56 (res1 Tryz.results56 rfl) ?_
  exact ⟨⟨_, rfl, by rw [decide_eq_true_iff]; exact ⟨fun h => ⟨rfl, hp.2, fun g b g0 g1 b0 b1 => hnil.1 (List.length_eq_zero_iff.1 (by omega)) g b g0 g1 b0 b1⟩, fun h => by rw [hnil.2 fun i c i0 i1 c0 c1 => h.2.none i c i0 i1 c0 c1]; rfl⟩⟩, hO9.tail.below⟩
 ·refine rl_gskip rfl rfl rfl rfl rfl rfl <| rl_gskip rfl rfl rfl rfl rfl rfl <| rl_gskip rfl rfl rfl rfl rfl rfl <| rl_gskip rfl rfl rfl rfl rfl rfl <| rl_gskip rfl rfl rfl rfl rfl rfl <| rl_v rfl rfl rfl (ov_pick_f rfl rfl rfl) <| rl_v rfl rfl rfl (ov_assign rfl rfl) <| rl_nil <| run_ret Tryz.func56 (res1 Tryz.results56 rfl) ?_
  exact ⟨⟨false, rfl, ⟨fun h => Bool.noConfusion h, fun h => by rw [hr.2 ⟨h.1, h.2.poss⟩] at q1; exact Bool.noConfusion q1⟩⟩, hO4.below⟩
section
variable (ga ba qa la : Option Addr) (gc bc qc nq ln lc : Nat) (f : Fair) (l : Int → Int) (w : World) (hlg : Lg5 f nq) (hF : FAg w.heap.size w ga ba qa f nq) (hln : ln ≤ 1000000) (hl : IAt w.heap.size w la ln (fun i => iv (l i)))
include hlg hF
include hln hl
end
end Go.Proofs.YtlldeifbfpmbaaaGreat
set_option maxRecDepth 100000
namespace Go.Proofs.YtlldeifbfpmbaaaGreat
open Go.RowKit Go.Proofs Go.MapKept
noncomputable def dB (p : Prop) : Bool := @decide p (Classical.propDecidable p)
theorem dB_iff {p : Prop} : dB p = true ↔ p := @decide_eq_true_iff p (Classical.propDecidable p)
section
variable (ga ba qa la : Option Addr) (gc bc qc nq ln lc : Nat) (f : Fair) (l : Int → Int) (w : World) (hlg : Lg5 f nq) (hF : FAg w.heap.size w ga ba qa f nq) (hln : ln ≤ 1000000) (hl : IAt w.heap.size w la ln (fun i => iv (l i)))
include hlg hF hln hl
end
end Go.Proofs.YtlldeifbfpmbaaaGreat
