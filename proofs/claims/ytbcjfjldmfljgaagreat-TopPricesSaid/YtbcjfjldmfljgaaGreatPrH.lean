import Derived.Test.YtbcjfjldmfljgaaGreatPrE
set_option maxRecDepth 100000
namespace Go.Proofs.YtbcjfjldmfljgaaGreat
open Go.RowKit Go.Proofs Go.MapKept
def leanV (z : Zns) : Int := if 0 < z.d 0 - z.s 0 then 1 else if z.d 0 - z.s 0 < 0 then -1 else 0
theorem lean_any (z : Zns) (hz : z.Sm) (h1 : z.n = 1) (la : Option Addr) (lc : Nat) (w : World) (hl : SAt w.heap.size w la 4 1 (znF z)) :
  Calls Tryz.prog 42 #[.slice la 1 lc] w fun e w' => e = .returned (iv (leanV z)) ∧ Own w.heap.size w w' [] := by
 obtain ⟨lb, lo, hla, hlr⟩ := hl.open (by decide)
 refine calls_of_run (F := [(0, _)]) Tryz.func42 rfl Tryz.ntmps42 rfl rfl ?_
 have hO0 := Own.init w
 refine run_seq <| run_region <| rl_v rfl rfl rfl (ov_assign rfl rfl) <| rl_nil <| run_seq <| run_region <| rl_v rfl rfl rfl (ov_assign rfl rfl) <| rl_v rfl rfl rfl (ov_assign rfl rfl) <| rl_nil <| run_seq <| run_seq <| run_region <| rl_v rfl rfl rfl (ov_move rfl rfl) <| rl_v rfl rfl rfl (ov_len rfl Tryz.underlying66 rfl) <| rl_v rfl rfl rfl (ov_move rfl rfl) <| rl_nil <| run_block <| run_once <| run_seq <| run_region <| rl_v rfl rfl rfl (ov_lss rfl rfl rfl) <| rl_nil <| run_seq ?_
 first | refine run_cond_dec rfl (fun q1 => ?_) (fun q1 => ?_) | refine run_cond rfl (fun q1 => ?_) (fun q1 => ?_)
 ·refine run_skip <| run_seq <| run_block <| run_seq <| run_region <| rl_v rfl rfl rfl (ov_index rfl Tryz.underlying66 (by kernel_rfl) (s := 4) rfl rfl ⟨by omega, by omega⟩ (by exact hla (by omega))) ?_
  refine rl_v rfl rfl rfl (ov_loadE rfl Tryz.underlying69 rfl (by kernel_rfl) rfl ⟨by omega, by omega⟩ rfl ((hlr _ hO0.below))) ?_
  refine rl_ow rfl (ow_alloc _ rfl rfl rfl zero_69 rfl hO0) ?_
  rintro _ w1 ⟨x6, rfl, hO2, hs3⟩
  refine rl_ow rfl (ow_storeW rfl rfl (by kernel_rfl) hO2 0 rfl rfl (by rfl) rfl (by rfl)) ?_
  rintro _ w4 ⟨rfl, hO5, hs6⟩
  have hO2 : Own w.heap.size w w4 [some (lch x6 69 (znF z 0))] := hO5
  refine rl_nil <| run_seq <| run_region <| rl_v rfl rfl rfl (ov_move rfl rfl) <| rl_v rfl rfl rfl (ov_move rfl rfl) <| rl_gv rfl rfl rfl rfl rfl (ov_loadW rfl Tryz.underlying69 rfl (by kernel_rfl) rfl hO2 0 rfl) ?_
  refine rl_gcall callable_40 rfl rfl rfl rfl rfl rfl rfl rfl (surplus_any z hz 0 (by omega) (by omega) _) (fun e7 w8 hp9 => ?_)
  obtain ⟨rfl, hOa⟩ := hp9
  refine ⟨_, rfl, ?_⟩
  have hO10 := hO2.join hOa
  refine rl_gv rfl rfl rfl rfl rfl (ov_gtr rfl rfl rfl) <| rl_v rfl rfl rfl (ov_pick_t rfl rfl rfl) <| rl_v rfl rfl rfl (ov_assign rfl rfl) <| rl_nil <| run_region <| rl_v rfl rfl rfl (ov_move rfl rfl) <| rl_v rfl rfl rfl (ov_move rfl rfl) <| rl_gv rfl rfl rfl rfl rfl (ov_loadW rfl Tryz.underlying69 rfl (by kernel_rfl) rfl hO10 0 rfl) ?_
  refine rl_gcall callable_40 rfl rfl rfl rfl rfl rfl rfl rfl (surplus_any z hz 0 (by omega) (by omega) _) (fun e11 w12 hp13 => ?_)
  obtain ⟨rfl, hOb⟩ := hp13
  refine ⟨_, rfl, ?_⟩
  have hO14 := hO10.join hOb
  refine rl_gv rfl rfl rfl rfl rfl (ov_lss rfl rfl rfl) <| rl_v rfl rfl rfl (ov_pick_t rfl rfl rfl) <| rl_v rfl rfl rfl (ov_assign rfl rfl) <| rl_nil <| run_inBlock <| run_region <| rl_v rfl rfl rfl (ov_add rfl rfl rfl (by omega)) ?_
  refine rl_v rfl rfl rfl (ov_move rfl rfl) <| rl_nil <| run_again <| run_seq <| run_region <| rl_v rfl rfl rfl (ov_lss rfl rfl rfl) <| rl_nil <| run_seq ?_
  first | refine run_cond_dec rfl (fun q2 => ?_) (fun q2 => ?_) | refine run_cond rfl (fun q2 => ?_) (fun q2 => ?_)
  ·exfalso; omega
  ·refine run_exit rfl <| run_seq <| run_block <| run_seq <| run_region <| rl_v rfl rfl rfl (ov_move rfl rfl) <| rl_v rfl rfl rfl (ov_assign rfl rfl) <| rl_nil ?_
   first | refine run_cond_dec rfl (fun q3 => ?_) (fun q3 => ?_) | refine run_cond rfl (fun q3 => ?_) (fun q3 => ?_)
   ·refine run_seq <| run_region <| rl_v rfl rfl rfl (ov_assign rfl rfl) <| rl_nil <| run_ret Tryz.func42 (res1 Tryz.results42 rfl) ?_
    exact ⟨by unfold leanV; rw [if_pos (by simpa using q3)], hO14.sub (List.nil_sublist _)⟩
   ·refine run_seq <| run_region <| rl_v rfl rfl rfl (ov_move rfl rfl) <| rl_v rfl rfl rfl (ov_assign rfl rfl) <| rl_nil ?_
    first | refine run_cond_dec rfl (fun q4 => ?_) (fun q4 => ?_) | refine run_cond rfl (fun q4 => ?_) (fun q4 => ?_)
    ·refine run_seq <| run_region <| rl_v rfl rfl rfl (ov_assign rfl rfl) <| rl_nil <| run_ret Tryz.func42 (res1 Tryz.results42 rfl) ?_
     exact ⟨by unfold leanV; rw [if_neg (by simpa using q3), if_pos (by simpa using q4)], hO14.sub (List.nil_sublist _)⟩
    ·refine run_skip <| run_inBlock <| run_seq <| run_region <| rl_v rfl rfl rfl (ov_assign rfl rfl) <| rl_nil <| run_ret Tryz.func42 (res1 Tryz.results42 rfl) ?_
     exact ⟨by unfold leanV; rw [if_neg (by simpa using q3), if_neg (by simpa using q4)], hO14.sub (List.nil_sublist _)⟩
 ·exfalso; omega
abbrev xL (lb wb rb vc : Nat) (va : Option Addr) (c1 : Option Blk) (y : Int) : List (Option Blk) := [some (lch lb 66 [.slice va 1 vc]), some (lch wb 3 [iv y]), some (lch rb 2 [iv 1]), c1]
def f3V (z : Zns) : Int := if leanV z = 0 then max (pckZ z 0 0 1 - 1) (-(pckZ z 0 0 1 - 1)) else z.t 0
theorem price3_any (z : Zns) (hz : z.Sm) (h1 : z.n = 1) (hds : z.d 0 ≤ z.s 0) (lb wb rb vc : Nat) (va : Option Addr) (c1 : Option Blk) (hr : SRow (.slice va 1 vc) 69 4 1 (znF z) c1) (B : Nat) (w0 : World) (y : Int) (K : List (Option Blk)) (w : World) (hO : Own B w0 w (xL lb wb rb vc va c1 y ++ K)) :
  Calls Tryz.prog 41 (#[.agg (znF z 0).toArray] ++ #[ptr lb, ptr wb, ptr rb]) w fun e w' => e = .returned (iv (f3V z)) ∧ Own B w0 w' (xL lb wb rb vc va c1 (leanV z) ++ K) := by
 have hf := hz.f 0 (by omega) (by omega)
 have ht := hz.t 0 (by omega) (by omega)
 have hL : leanV z = 0 ∨ leanV z = -1 := by
  unfold leanV
  rw [if_neg (by omega)]
  split
  ·exact .inr rfl
  ·exact .inl rfl
 refine calls_of_run (F := [(0, _), (1, _), (2, _), (3, _)]) Tryz.func41 rfl Tryz.ntmps41 rfl rfl <| run_seq <| run_region <| rl_ow rfl (ow_box _ rfl rfl rfl rfl rfl hO) ?_
 rintro _ w1 ⟨x4, rfl, hO2, hs3⟩
 have hO2 : Own B w0 w1 (some (lch x4 69 (znF z 0)) :: (xL lb wb rb vc va c1 y ++ K)) := hO2
 refine rl_v rfl rfl rfl (ov_assign rfl rfl) <| rl_nil <| run_seq <| run_seq <| run_region <| rl_v rfl rfl rfl (ov_load rfl Tryz.underlying66 rfl rfl (by exact hO2.cellL 1 rfl (off := 0) rfl)) ?_
 refine rl_call callable_42 rfl rfl rfl rfl rfl rfl (lean_any z hz h1 va vc _ (hr.reads hO2 4 rfl)) (fun e4 w5 hp6 => ?_)
 obtain ⟨rfl, hOa⟩ := hp6
 refine ⟨_, rfl, ?_⟩
 have hO7 := hO2.join hOa
 refine rl_ow rfl (ow_storeL rfl rfl (by kernel_rfl) hO7 2 rfl rfl rfl rfl rfl) ?_
 rintro _ w8 ⟨rfl, hO9, hs10⟩
 refine rl_nil <| run_seq <| run_region <| rl_v rfl rfl rfl (ov_load rfl Tryz.underlying3 rfl rfl (by exact hO9.cellL 2 rfl (off := 0) rfl)) ?_
 refine rl_v rfl rfl rfl (ov_eql rfl rfl rfl) <| rl_nil ?_
 first | refine run_cond_dec rfl (fun c1x => ?_) (fun c1x => ?_) | refine run_cond rfl (fun c1x => ?_) (fun c1x => ?_)
 ·have hO3 : Own B w0 w8 (some (lch x4 69 (znF z 0)) :: (xL lb wb rb vc va c1 (leanV z) ++ K)) := hO9
  rw [c1x] at hO3
  have hpk : 0 ≤ pckZ z 0 0 1 ∧ pckZ z 0 0 1 ≤ 1000000000 := by
   unfold pckZ
   rw [if_neg (by omega), if_neg (by omega)]
   omega
  refine run_seq <| run_class (ClU B w0 (some (lch x4 69 (znF z 0)) :: (xL lb wb rb vc va c1 0 ++ K))) (⟨hO3.drew⟩) mixed (by kernel_rfl) ?_
  refine rk_v rfl rfl rfl (fun wq hQ => ov_loadW rfl Tryz.underlying69 rfl (by kernel_rfl) rfl (hQ.own) 0 rfl) ?_
  refine rk_v rfl rfl rfl (fun wq hQ => ov_load rfl Tryz.underlying3 rfl rfl (by exact (hQ.own).cellL 2 rfl (off := 0) rfl)) ?_
  refine rk_v rfl rfl rfl (fun wq hQ => ov_load rfl Tryz.underlying2 rfl rfl (by exact (hQ.own).cellL 3 rfl (off := 0) rfl)) ?_
  refine rk_call callable_43 rfl rfl rfl rfl rfl rfl (fun wq hQ => (pickZ_any z 0 0 1 wq).mono fun _ _ h => ⟨h.1, ⟨(hQ.own).join h.2⟩⟩) ?_
  refine rk_v rfl rfl rfl (fun wq hQ => ov_load rfl Tryz.underlying2 rfl rfl (by exact (hQ.own).cellL 3 rfl (off := 0) rfl)) ?_
  refine rk_v rfl rfl rfl (fun wq hQ => ov_sub rfl rfl rfl (by omega)) ?_
  refine rk_call callable_39 rfl rfl rfl rfl rfl rfl (fun wq hQ => (sized_any (pckZ z 0 0 1 - 1) (by omega) wq).mono fun _ _ h => ⟨h.1, ⟨(hQ.own).join h.2⟩⟩) ?_
  refine rk_v rfl rfl rfl (fun wq hQ => ov_assign rfl rfl) ?_
  refine rk_nil (fun w17 hQ => ?_)
  refine run_ret Tryz.func41 (res1 Tryz.results41 rfl) ?_
  exact ⟨by unfold f3V; rw [if_pos c1x], by rw [c1x]; exact (hQ.own).tail⟩
 ·have hLm : leanV z = -1 := hL.resolve_left c1x
  refine run_skip <| run_seq <| run_region <| rl_v rfl rfl rfl (ov_load rfl Tryz.underlying3 rfl rfl (by exact hO9.cellL 2 rfl (off := 0) (congrArg (fun q => some (iv q)) hLm))) ?_
  refine rl_v rfl rfl rfl (ov_neg rfl rfl (by omega)) ?_
  refine rl_v rfl rfl rfl (ov_fieldS rfl Tryz.underlying69 rfl (fo := 1) rfl (by kernel_rfl) rfl) ?_
  refine rl_v rfl rfl rfl (ov_load rfl Tryz.underlying2 rfl rfl (by exact hO9.cellL 0 rfl (off := 1) rfl)) ?_
  refine rl_v rfl rfl rfl (ov_mul rfl rfl rfl (by omega)) ?_
  refine rl_v rfl rfl rfl (ov_assign rfl rfl) <| rl_nil <| run_ret Tryz.func41 (res1 Tryz.results41 rfl) ?_
  exact ⟨by unfold f3V; rw [if_neg c1x]; exact congrArg (fun q => Ending.returned (iv q)) (by omega), hO9.tail⟩
end Go.Proofs.YtbcjfjldmfljgaaGreat
