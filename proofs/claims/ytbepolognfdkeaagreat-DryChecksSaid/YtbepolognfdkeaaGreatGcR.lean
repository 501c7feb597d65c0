import Derived.Test.YtbepolognfdkeaaGreatGcP
import Derived.Test.YtbepolognfdkeaaGreatGcF
import Derived.Test.YtbepolognfdkeaaGreatGaV
import Derived.Test.YtbepolognfdkeaaGreatGbY
import Derived.Test.YtbepolognfdkeaaGreatGaP
set_option maxRecDepth 100000
namespace Go.Proofs.YtbepolognfdkeaaGreat
open Go.RowKit Go.Proofs Go.MapKept
theorem refKilns7_any (k : Int) (w : World) : Calls Tryz.prog 9 #[iv k] w fun e w' => e = .returned (.bool (decide (1 ≤ k ∧ k ≤ 64))) ∧ Own w.heap.size w w' [] := by
 refine calls_of_run (F := [(0, _)]) Tryz.func9 rfl Tryz.ntmps9 rfl rfl ?_
 have hO0 := Own.init w
 refine run_seq <| run_region <| rl_v rfl rfl rfl (ov_assign rfl rfl) <| rl_nil <| run_seq <| run_region <| rl_v rfl rfl rfl (ov_move rfl rfl) <| rl_v rfl rfl rfl (ov_geq rfl rfl rfl) <| rl_v rfl rfl rfl (ov_move rfl rfl) ?_
 first | refine rl_split_dec 5 rfl (fun hg => ?_) (fun hg => ?_) | refine rl_split 5 rfl (fun hg => ?_) (fun hg => ?_)
 ·refine rl_gv rfl rfl rfl rfl rfl (ov_move rfl rfl) <| rl_gv rfl rfl rfl rfl rfl (ov_leq rfl rfl rfl) <| rl_v rfl rfl rfl (ov_pick_t rfl rfl rfl) <| rl_v rfl rfl rfl (ov_assign rfl rfl) <| rl_nil <| run_ret Tryz.func9 (res1 Tryz.results9 rfl) ?_
  exact ⟨by rw [decide_eq_decide.2 (show (1 ≤ k ∧ k ≤ 64) ↔ k ≤ 64 from ⟨And.right, fun h => ⟨hg, h⟩⟩)], hO0⟩
 ·refine rl_gskip rfl rfl rfl rfl rfl rfl <| rl_gskip rfl rfl rfl rfl rfl rfl <| rl_v rfl rfl rfl (ov_pick_f rfl rfl rfl) <| rl_v rfl rfl rfl (ov_assign rfl rfl) <| rl_nil <| run_ret Tryz.func9 (res1 Tryz.results9 rfl) ?_
  exact ⟨by rw [decide_eq_false (show ¬ (1 ≤ k ∧ k ≤ 64) from fun h => hg h.1)], hO0⟩
set_option maxHeartbeats 8000000 in
theorem checks7_any (la : Option Addr) (lc : Nat) (l : Lds) (k : Int) (w : World) (hlc : l.n ≤ lc) (hI0 : l.I64) (hl : SAt w.heap.size w la 4 l.n (ldF l)) :
  Calls Tryz.prog 3 #[.slice la l.n lc, iv k] w fun e w' => e = .returned (.bool true) ∧ Below w.heap.size w w' := by
 obtain ⟨o, ho⟩ : ∃ o, o = l.cut (min l.n 257) := ⟨_, rfl⟩
 have hno : o.n ≤ 257 := by rw [ho]; exact Nat.min_le_right _ _
 have hI : o.I64 := by rw [ho]; exact hI0.cut (Nat.min_le_left _ _)
 refine calls_of_run (F := [(0, _), (1, _)]) Tryz.func3 rfl Tryz.ntmps3 rfl rfl ?_
 have hO0 := Own.init w
 refine run_seq <| run_region <| rl_v rfl rfl rfl (ov_assign rfl rfl) <| rl_nil <| run_seq <| run_region <| rl_v rfl rfl rfl (ov_move rfl rfl) ?_
 refine rl_call callable_5 rfl rfl rfl rfl rfl rfl (some7_any la lc l 257 _ hlc (by decide) (hO0.satU hl)) (fun e1 w2 hp3 => ?_)
 obtain ⟨v, c, rfl, hr0, hOa⟩ := hp3
 refine ⟨_, rfl, ?_⟩
 have hO4 := hO0.join hOa
 obtain ⟨xa, xc, rfl⟩ := SRow.val hr0
 have hr : SRow (.slice xa o.n xc) 63 4 o.n (ldF o) c := by rw [ho]; exact hr0
 rw [show min l.n 257 = o.n by rw [ho]; rfl]
 refine rl_v rfl rfl rfl (ov_assign rfl rfl) <| rl_nil <| run_seq <| run_region <| rl_v rfl rfl rfl (ov_move rfl rfl) ?_
 refine rl_call callable_6 rfl rfl rfl rfl rfl rfl (give7_any xa xc o _ (by omega) (hr.reads hO4 0 rfl)) (fun e5 w6 hp7 => ?_)
 obtain ⟨ga, gc, cg, rfl, hg, hOb⟩ := hp7
 refine ⟨_, rfl, ?_⟩
 have hO8 := hO4.join hOb
 refine rl_v rfl rfl rfl (ov_assign rfl rfl) <| rl_nil <| run_seq <| run_region <| rl_v rfl rfl rfl (ov_move rfl rfl) ?_
 refine rl_call callable_7 rfl rfl rfl rfl rfl rfl (refCheck7_any xa xc o _ (by omega) hI (hr.reads hO8 1 rfl)) (fun e9 w10 hp11 => ?_)
 obtain ⟨rfl, hOc⟩ := hp11
 refine ⟨_, rfl, ?_⟩
 have hO12 := hO8.join hOc
 refine rl_v rfl rfl rfl (ov_assign rfl rfl) <| rl_nil <| run_seq <| run_seq <| run_region <| rl_v rfl rfl rfl (ov_move rfl rfl) ?_
 refine rl_call callable_8 rfl rfl rfl rfl rfl rfl (check7_any ga gc o _ (by omega) hI (hg.reads hO12 0 rfl)) (fun e13 w14 hp15 => ?_)
 obtain ⟨rfl, hOc⟩ := hp15
 refine ⟨_, rfl, ?_⟩
 have hO16 := hO12.join hOc
 refine rl_v rfl rfl rfl (ov_move rfl rfl) <| rl_v rfl rfl rfl (ov_neq rfl rfl rfl) <| rl_nil ?_
 first | refine run_cond_dec rfl (fun c1 => ?_) (fun c1 => ?_) | refine run_cond rfl (fun c1 => ?_) (fun c1 => ?_)
 ·exfalso; exact c1 rfl
 ·refine run_skip <| run_seq <| run_region <| rl_v rfl rfl rfl (ov_move rfl rfl) <| rl_v rfl rfl rfl (ov_assign rfl rfl) <| rl_nil <| run_seq <| run_seq <| run_region <| rl_v rfl rfl rfl (ov_move rfl rfl) <| rl_v rfl rfl rfl (ov_eql rfl rfl rfl) <| rl_v rfl rfl rfl (ov_move rfl rfl) ?_
  first | refine rl_split_dec 39 rfl (fun hz => ?_) (fun hz => ?_) | refine rl_split 39 rfl (fun hz => ?_) (fun hz => ?_)
  ·refine rl_gv rfl rfl rfl rfl rfl (ov_move rfl rfl) ?_
   refine rl_gcall callable_9 rfl rfl rfl rfl rfl rfl rfl rfl (refKilns7_any k _) (fun e18 w19 hp20 => ?_)
   obtain ⟨rfl, hOd⟩ := hp20
   refine ⟨_, rfl, ?_⟩
   have hO21 := hO16.join hOd
   refine rl_gv rfl rfl rfl rfl rfl (ov_not rfl rfl) <| rl_v rfl rfl rfl (ov_pick_t rfl rfl rfl) <| rl_nil ?_
   first | refine run_cond_dec rfl (fun c2 => ?_) (fun c2 => ?_) | refine run_cond rfl (fun c2 => ?_) (fun c2 => ?_)
   ·have c2' : ¬ (1 ≤ k ∧ k ≤ 64) := by simp at c2; omega
    have hK : o.chkK k = 1 := by unfold Lds.chkK; rw [if_pos hz, if_neg c2']
    have hne : ¬ o.chkK k = 0 := by rw [hK]; decide
    refine run_region <| rl_v rfl rfl rfl (ov_assign rfl rfl) <| rl_nil <| run_seq <| run_seq <| run_region <| rl_v rfl rfl rfl (ov_move rfl rfl) <| rl_v rfl rfl rfl (ov_eql rfl rfl rfl) <| rl_nil ?_
    first | refine run_cond_dec rfl (fun c3 => ?_) (fun c3 => ?_) | refine run_cond rfl (fun c3 => ?_) (fun c3 => ?_)
    ·exfalso; omega
    ·refine run_skip <| run_seq <| run_region <| rl_v rfl rfl rfl (ov_move rfl rfl) <| rl_v rfl rfl rfl (ov_move rfl rfl) ?_
     refine rl_call callable_11 rfl rfl rfl rfl rfl rfl (Fits_any ga gc o k _ (by omega) hI (hg.reads hO21 0 rfl)) (fun e22 w23 hp24 => ?_)
     obtain ⟨rfl, hOe⟩ := hp24
     refine ⟨_, rfl, ?_⟩
     have hO25 := hO21.join hOe
     rw [decide_eq_false (show ¬ (o.chkK k = 0 ∧ o.Can k) from fun h => hne h.1)]
     refine rl_v rfl rfl rfl (ov_move rfl rfl) <| rl_v rfl rfl rfl (ov_extract rfl rfl (by rfl)) ?_
     refine rl_v rfl rfl rfl (ov_extract rfl rfl (by rfl)) ?_
     refine rl_v rfl rfl rfl (ov_assign rfl rfl) <| rl_v rfl rfl rfl (ov_assign rfl rfl) <| rl_nil <| run_seq <| run_region <| rl_v rfl rfl rfl (ov_move rfl rfl) <| rl_v rfl rfl rfl (ov_move rfl rfl) ?_
     refine rl_call callable_12 rfl rfl rfl rfl rfl rfl (Plan_any ga gc o k _ (by omega) hI (hg.reads hO25 0 rfl)) (fun e26 w27 hp28 => ?_)
     obtain ⟨ta, tc, T, ct, rfl, hPl, hOe⟩ := hp28
     refine ⟨_, rfl, ?_⟩
     have hO29 := hO25.join hOe
     have hE := Lds.planE_bad hne
     obtain rfl := hPl.no_ (by rw [hE]; exact hne)
     rw [hE]
     refine rl_v rfl rfl rfl (ov_move rfl rfl) <| rl_v rfl rfl rfl (ov_extract rfl rfl (by rfl)) ?_
     refine rl_v rfl rfl rfl (ov_extract rfl rfl (by rfl)) ?_
     refine rl_v rfl rfl rfl (ov_assign rfl rfl) <| rl_v rfl rfl rfl (ov_assign rfl rfl) <| rl_nil <| run_seq <| run_region <| rl_v rfl rfl rfl (ov_move rfl rfl) <| rl_v rfl rfl rfl (ov_move rfl rfl) ?_
     refine rl_call callable_13 rfl rfl rfl rfl rfl rfl (Proof_any ga gc o k _ (by omega) hI (hg.reads hO29 1 rfl)) (fun e30 w31 hp32 => ?_)
     obtain ⟨pa, pn, pc, sa, sn, sc, Y2, A2, B2, cy, ch, rfl, hCr, hOe⟩ := hp32
     refine ⟨_, rfl, ?_⟩
     have hO33 := hO29.join hOe
     rw [decide_eq_false (show ¬ (o.chkK k = 0 ∧ ¬ o.Can k) from fun h => hne h.1)]
     obtain ⟨rfl, rfl⟩ := hCr.no_ (fun h => hne h.1)
     refine rl_v rfl rfl rfl (ov_move rfl rfl) <| rl_v rfl rfl rfl (ov_extract rfl rfl (by rfl)) ?_
     refine rl_v rfl rfl rfl (ov_extract rfl rfl (by rfl)) ?_
     refine rl_ow rfl (ow_alloc _ rfl rfl rfl zero_39 rfl hO33) ?_
     rintro _ w34 ⟨t13, rfl, hO35, hs36⟩
     refine rl_ow rfl (ow_storeW rfl rfl (by kernel_rfl) hO35 0 rfl rfl (by rfl) rfl (by rfl)) ?_
     rintro _ w37 ⟨rfl, hO38, hs39⟩
     refine rl_v rfl rfl rfl (ov_assign rfl rfl) <| rl_nil <| run_seq <| run_region <| rl_v rfl rfl rfl (ov_move rfl rfl) <| rl_v rfl rfl rfl (ov_move rfl rfl) ?_
     refine rl_call callable_14 rfl rfl rfl rfl rfl rfl (Delay_any ga gc o k _ (by omega) hI (hg.reads hO38 4 rfl)) (fun e40 w41 hp42 => ?_)
     obtain ⟨d, rfl, hD, hOe⟩ := hp42
     refine ⟨_, rfl, ?_⟩
     have hO43 := hO38.join hOe
     obtain rfl := hD.no_ hne
     refine rl_v rfl rfl rfl (ov_move rfl rfl) <| rl_v rfl rfl rfl (ov_extract rfl rfl (by rfl)) ?_
     refine rl_v rfl rfl rfl (ov_extract rfl rfl (by rfl)) ?_
     refine rl_v rfl rfl rfl (ov_assign rfl rfl) <| rl_v rfl rfl rfl (ov_assign rfl rfl) <| rl_nil <| run_seq <| run_region <| rl_v rfl rfl rfl (ov_move rfl rfl) <| rl_v rfl rfl rfl (ov_move rfl rfl) ?_
     refine rl_call callable_15 rfl rfl rfl rfl rfl rfl (Early_any ga gc o k _ (by omega) (fun h => absurd h hne) hI (hg.reads hO43 4 rfl)) (fun e44 w45 hp46 => ?_)
     obtain ⟨oa, on, oc, out, co, rfl, _, _, hz1, hOe⟩ := hp46
     refine ⟨_, rfl, ?_⟩
     have hO47 := hO43.join hOe
     have hEe : o.earE k = o.chkK k := by unfold Lds.earE; rw [if_neg hne]
     obtain rfl := hz1 (by rw [hEe]; exact hne)
     rw [hEe]
     refine rl_v rfl rfl rfl (ov_move rfl rfl) <| rl_v rfl rfl rfl (ov_extract rfl rfl (by rfl)) ?_
     refine rl_v rfl rfl rfl (ov_extract rfl rfl (by rfl)) ?_
     refine rl_v rfl rfl rfl (ov_assign rfl rfl) <| rl_v rfl rfl rfl (ov_assign rfl rfl) <| rl_nil <| run_seq <| run_region <| rl_v rfl rfl rfl (ov_move rfl rfl) <| rl_v rfl rfl rfl (ov_move rfl rfl) ?_
     refine rl_call callable_16 rfl rfl rfl rfl rfl rfl (Best_any ga gc o k _ (by omega) (fun h => absurd h hne) hI (hg.reads hO47 5 rfl)) (fun e48 w49 hp50 => ?_)
     obtain ⟨ba, bn, bc, Yb, s, cb, rfl, _, _, hz2, hOe⟩ := hp50
     refine ⟨_, rfl, ?_⟩
     have hO51 := hO47.join hOe
     have hEb : o.bestE k = o.chkK k := by unfold Lds.bestE; rw [if_neg hne]
     obtain ⟨rfl, rfl⟩ := hz2 (by rw [hEb]; exact hne)
     rw [hEb]
     refine rl_v rfl rfl rfl (ov_move rfl rfl) <| rl_v rfl rfl rfl (ov_extract rfl rfl (by rfl)) ?_
     refine rl_v rfl rfl rfl (ov_extract rfl rfl (by rfl)) ?_
     refine rl_v rfl rfl rfl (ov_extract rfl rfl (by rfl)) ?_
     refine rl_v rfl rfl rfl (ov_assign rfl rfl) <| rl_v rfl rfl rfl (ov_assign rfl rfl) <| rl_v rfl rfl rfl (ov_assign rfl rfl) <| rl_nil <| run_seq <| run_seq <| run_region <| rl_v rfl rfl rfl (ov_move rfl rfl) <| rl_v rfl rfl rfl (ov_move rfl rfl) ?_
     first | refine rl_noD 85 rfl (rfl) ?_ | refine rl_no 85 rfl (rfl) ?_
     refine rl_gv rfl rfl rfl rfl rfl (ov_move rfl rfl) <| rl_gv rfl rfl rfl rfl rfl (ov_move rfl rfl) <| rl_gv rfl rfl rfl rfl rfl (ov_neq rfl rfl rfl) <| rl_v rfl rfl rfl (ov_pick_f rfl rfl rfl) <| rl_v rfl rfl rfl (ov_move rfl rfl) ?_
     first | refine rl_noD 90 rfl ((fun h => h hK)) ?_ | refine rl_no 90 rfl ((fun h => h hK)) ?_
     refine rl_gv rfl rfl rfl rfl rfl (ov_move rfl rfl) <| rl_gv rfl rfl rfl rfl rfl (ov_len rfl Tryz.underlying33 rfl) <| rl_gv rfl rfl rfl rfl rfl (ov_neq rfl rfl rfl) <| rl_v rfl rfl rfl (ov_pick_f rfl rfl rfl) <| rl_v rfl rfl rfl (ov_move rfl rfl) ?_
     first | refine rl_noD 95 rfl ((fun h => h rfl)) ?_ | refine rl_no 95 rfl ((fun h => h rfl)) ?_
     refine rl_gv rfl rfl rfl rfl rfl (ov_move rfl rfl) <| rl_gv rfl rfl rfl rfl rfl (ov_move rfl rfl) <| rl_gv rfl rfl rfl rfl rfl (ov_neq rfl rfl rfl) <| rl_v rfl rfl rfl (ov_pick_f rfl rfl rfl) <| rl_v rfl rfl rfl (ov_move rfl rfl) ?_
     first | refine rl_noD 100 rfl ((fun h => h hK)) ?_ | refine rl_no 100 rfl ((fun h => h hK)) ?_
     refine rl_gv rfl rfl rfl rfl rfl (ov_move rfl rfl) <| rl_v rfl rfl rfl (ov_pick_f rfl rfl rfl) <| rl_v rfl rfl rfl (ov_move rfl rfl) ?_
     first | refine rl_noD 103 rfl (rfl) ?_ | refine rl_no 103 rfl (rfl) ?_
     refine rl_gv rfl rfl rfl rfl rfl (ov_fieldS rfl Tryz.underlying39 rfl (fo := 0) rfl (by kernel_rfl) rfl) ?_
     refine rl_gv rfl rfl rfl rfl rfl (ov_load rfl Tryz.underlying36 rfl rfl (by exact hO51.cellL 2 rfl (off := 0) rfl)) ?_
     refine rl_gv rfl rfl rfl rfl rfl (ov_len rfl Tryz.underlying36 rfl) <| rl_gv rfl rfl rfl rfl rfl (ov_neq rfl rfl rfl) <| rl_v rfl rfl rfl (ov_pick_f rfl rfl rfl) <| rl_v rfl rfl rfl (ov_move rfl rfl) ?_
     first | refine rl_noD 109 rfl ((fun h => h rfl)) ?_ | refine rl_no 109 rfl ((fun h => h rfl)) ?_
     refine rl_gv rfl rfl rfl rfl rfl (ov_fieldS rfl Tryz.underlying39 rfl (fo := 1) rfl (by kernel_rfl) rfl) ?_
     refine rl_gv rfl rfl rfl rfl rfl (ov_load rfl Tryz.underlying37 rfl rfl (by exact hO51.cellL 2 rfl (off := 1) rfl)) ?_
     refine rl_gv rfl rfl rfl rfl rfl (ov_len rfl Tryz.underlying37 rfl) <| rl_gv rfl rfl rfl rfl rfl (ov_neq rfl rfl rfl) <| rl_v rfl rfl rfl (ov_pick_f rfl rfl rfl) <| rl_v rfl rfl rfl (ov_move rfl rfl) ?_
     first | refine rl_noD 115 rfl ((fun h => h rfl)) ?_ | refine rl_no 115 rfl ((fun h => h rfl)) ?_
     refine rl_gv rfl rfl rfl rfl rfl (ov_move rfl rfl) <| rl_gv rfl rfl rfl rfl rfl (ov_neq rfl rfl rfl) <| rl_v rfl rfl rfl (ov_pick_f rfl rfl rfl) <| rl_v rfl rfl rfl (ov_move rfl rfl) ?_
     first | refine rl_noD 119 rfl ((fun h => h rfl)) ?_ | refine rl_no 119 rfl ((fun h => h rfl)) ?_
     refine rl_gv rfl rfl rfl rfl rfl (ov_move rfl rfl) <| rl_gv rfl rfl rfl rfl rfl (ov_move rfl rfl) <| rl_gv rfl rfl rfl rfl rfl (ov_neq rfl rfl rfl) <| rl_v rfl rfl rfl (ov_pick_f rfl rfl rfl) <| rl_v rfl rfl rfl (ov_move rfl rfl) ?_
     first | refine rl_noD 124 rfl ((fun h => h hK)) ?_ | refine rl_no 124 rfl ((fun h => h hK)) ?_
     refine rl_gv rfl rfl rfl rfl rfl (ov_move rfl rfl) <| rl_gv rfl rfl rfl rfl rfl (ov_len rfl Tryz.underlying36 rfl) <| rl_gv rfl rfl rfl rfl rfl (ov_neq rfl rfl rfl) <| rl_v rfl rfl rfl (ov_pick_f rfl rfl rfl) <| rl_v rfl rfl rfl (ov_move rfl rfl) ?_
     first | refine rl_noD 129 rfl ((fun h => h rfl)) ?_ | refine rl_no 129 rfl ((fun h => h rfl)) ?_
     refine rl_gv rfl rfl rfl rfl rfl (ov_move rfl rfl) <| rl_gv rfl rfl rfl rfl rfl (ov_move rfl rfl) <| rl_gv rfl rfl rfl rfl rfl (ov_neq rfl rfl rfl) <| rl_v rfl rfl rfl (ov_pick_f rfl rfl rfl) <| rl_v rfl rfl rfl (ov_move rfl rfl) ?_
     first | refine rl_noD 134 rfl ((fun h => h hK)) ?_ | refine rl_no 134 rfl ((fun h => h hK)) ?_
     refine rl_gv rfl rfl rfl rfl rfl (ov_move rfl rfl) <| rl_gv rfl rfl rfl rfl rfl (ov_len rfl Tryz.underlying36 rfl) <| rl_gv rfl rfl rfl rfl rfl (ov_neq rfl rfl rfl) <| rl_v rfl rfl rfl (ov_pick_f rfl rfl rfl) <| rl_v rfl rfl rfl (ov_move rfl rfl) ?_
     first | refine rl_noD 139 rfl ((fun h => h rfl)) ?_ | refine rl_no 139 rfl ((fun h => h rfl)) ?_
     refine rl_gv rfl rfl rfl rfl rfl (ov_move rfl rfl) <| rl_gv rfl rfl rfl rfl rfl (ov_neq rfl rfl rfl) <| rl_v rfl rfl rfl (ov_pick_f rfl rfl rfl) <| rl_v rfl rfl rfl (ov_move rfl rfl) ?_
     first | refine rl_noD 143 rfl ((fun h => h rfl)) ?_ | refine rl_no 143 rfl ((fun h => h rfl)) ?_
     refine rl_gv rfl rfl rfl rfl rfl (ov_move rfl rfl) <| rl_gv rfl rfl rfl rfl rfl (ov_move rfl rfl) <| rl_gv rfl rfl rfl rfl rfl (ov_neq rfl rfl rfl) <| rl_v rfl rfl rfl (ov_pick_f rfl rfl rfl) <| rl_v rfl rfl rfl (ov_move rfl rfl) ?_
     first | refine rl_noD 148 rfl ((fun h => h hK)) ?_ | refine rl_no 148 rfl ((fun h => h hK)) ?_
     refine rl_gv rfl rfl rfl rfl rfl (ov_move rfl rfl) <| rl_gv rfl rfl rfl rfl rfl (ov_move rfl rfl) ?_
     refine rl_gcall callable_17 rfl rfl rfl rfl rfl rfl rfl rfl (isPlan7_any ga gc o k none 0 [] _ (by omega) hI (by decide) (hg.reads hO51 6 rfl) (SAt.nil _ _ _ _ _)) (fun e52 w53 hp54 => ?_)
     obtain ⟨rfl, hOe⟩ := hp54
     refine ⟨_, rfl, ?_⟩
     have hO55 := hO51.join hOe
     rw [decide_eq_false (show ¬ (o.chkK k = 0 ∧ PlanOk o k []) from fun h => hne h.1)]
     refine rl_v rfl rfl rfl (ov_pick_f rfl rfl rfl) <| rl_v rfl rfl rfl (ov_move rfl rfl) ?_
     first | refine rl_noD 153 rfl (rfl) ?_ | refine rl_no 153 rfl (rfl) ?_
     refine rl_gv rfl rfl rfl rfl rfl (ov_move rfl rfl) <| rl_gv rfl rfl rfl rfl rfl (ov_move rfl rfl) <| rl_gv rfl rfl rfl rfl rfl (ov_buildL rfl lay_39 rfl (us := [_, _]) rfl) ?_
     refine rl_gcall callable_18 rfl rfl rfl rfl rfl rfl rfl rfl (proves7_any ga gc o k none 0 0 none 0 0 (fun _ => 0) (fun _ => 0) (fun _ => 0) _ (by omega) hI (by decide) (by decide) (hg.reads hO55 6 rfl) (IAt.nil _ _ _ _) (SAt.nil _ _ _ _ _)) (fun e56 w57 hp58 => ?_)
     obtain ⟨rfl, hOe⟩ := hp58
     refine ⟨_, rfl, ?_⟩
     have hO59 := hO55.join hOe
     rw [decide_eq_false (show ¬ (o.chkK k = 0 ∧ Prv o k 0 (fun _ => 0) 0 (fun _ => 0) (fun _ => 0)) from fun h => hne h.1)]
     refine rl_v rfl rfl rfl (ov_pick_f rfl rfl rfl) <| rl_nil <| run_cond_f rfl <| run_skip <| run_seq <| run_seq <| run_region <| rl_v rfl rfl rfl (ov_move rfl rfl) <| rl_v rfl rfl rfl (ov_neq rfl rfl rfl) <| rl_nil ?_
     first | refine run_cond_dec rfl (fun c4 => ?_) (fun c4 => ?_) | refine run_cond rfl (fun c4 => ?_) (fun c4 => ?_)
     ·exfalso; exact c4 hz
     ·refine run_skip <| run_seq <| run_region ?_
      refine rl_call callable_10 rfl rfl rfl rfl rfl rfl (awake7_any _) (fun e60 w61 hp62 => ?_)
      obtain ⟨rfl, hOh⟩ := hp62
      refine ⟨_, rfl, ?_⟩
      have hO63 := hO59.join hOh
      refine rl_v rfl rfl rfl (ov_assign rfl rfl) <| rl_nil <| run_ret Tryz.func3 (res1 Tryz.results3 rfl) ?_
      exact ⟨rfl, hO63.below⟩
   ·refine run_skip <| run_seq <| run_seq <| run_region <| rl_v rfl rfl rfl (ov_move rfl rfl) <| rl_v rfl rfl rfl (ov_eql rfl rfl rfl) <| rl_nil ?_
    first | refine run_cond_dec rfl (fun c3 => ?_) (fun c3 => ?_) | refine run_cond rfl (fun c3 => ?_) (fun c3 => ?_)
    ·refine run_seq <| run_region ?_
     refine rl_call callable_10 rfl rfl rfl rfl rfl rfl (awake7_any _) (fun e64 w65 hp66 => ?_)
     obtain ⟨rfl, hOh⟩ := hp66
     refine ⟨_, rfl, ?_⟩
     have hO67 := hO21.join hOh
     refine rl_v rfl rfl rfl (ov_assign rfl rfl) <| rl_nil <| run_ret Tryz.func3 (res1 Tryz.results3 rfl) ?_
     exact ⟨rfl, hO67.below⟩
    ·exfalso; exact c3 hz
  ·refine rl_gskip rfl rfl rfl rfl rfl rfl <| rl_gskip rfl rfl rfl rfl rfl rfl <| rl_gskip rfl rfl rfl rfl rfl rfl <| rl_v rfl rfl rfl (ov_pick_f rfl rfl rfl) <| rl_nil <| run_cond_f rfl ?_
   have hK : o.chkK k = o.chk := by unfold Lds.chkK; rw [if_neg hz]
   have hne : ¬ o.chkK k = 0 := by rw [hK]; exact hz
   refine run_skip <| run_seq <| run_seq <| run_region <| rl_v rfl rfl rfl (ov_move rfl rfl) <| rl_v rfl rfl rfl (ov_eql rfl rfl rfl) <| rl_nil ?_
   first | refine run_cond_dec rfl (fun c3 => ?_) (fun c3 => ?_) | refine run_cond rfl (fun c3 => ?_) (fun c3 => ?_)
   ·exfalso; exact hz c3
   ·refine run_skip <| run_seq <| run_region <| rl_v rfl rfl rfl (ov_move rfl rfl) <| rl_v rfl rfl rfl (ov_move rfl rfl) ?_
    refine rl_call callable_11 rfl rfl rfl rfl rfl rfl (Fits_any ga gc o k _ (by omega) hI (hg.reads hO16 0 rfl)) (fun e68 w69 hp70 => ?_)
    obtain ⟨rfl, hOe⟩ := hp70
    refine ⟨_, rfl, ?_⟩
    have hO71 := hO16.join hOe
    rw [decide_eq_false (show ¬ (o.chkK k = 0 ∧ o.Can k) from fun h => hne h.1)]
    refine rl_v rfl rfl rfl (ov_move rfl rfl) <| rl_v rfl rfl rfl (ov_extract rfl rfl (by rfl)) ?_
    refine rl_v rfl rfl rfl (ov_extract rfl rfl (by rfl)) ?_
    refine rl_v rfl rfl rfl (ov_assign rfl rfl) <| rl_v rfl rfl rfl (ov_assign rfl rfl) <| rl_nil <| run_seq <| run_region <| rl_v rfl rfl rfl (ov_move rfl rfl) <| rl_v rfl rfl rfl (ov_move rfl rfl) ?_
    refine rl_call callable_12 rfl rfl rfl rfl rfl rfl (Plan_any ga gc o k _ (by omega) hI (hg.reads hO71 0 rfl)) (fun e72 w73 hp74 => ?_)
    obtain ⟨ta, tc, T, ct, rfl, hPl, hOe⟩ := hp74
    refine ⟨_, rfl, ?_⟩
    have hO75 := hO71.join hOe
    have hE := Lds.planE_bad hne
    obtain rfl := hPl.no_ (by rw [hE]; exact hne)
    rw [hE]
    refine rl_v rfl rfl rfl (ov_move rfl rfl) <| rl_v rfl rfl rfl (ov_extract rfl rfl (by rfl)) ?_
    refine rl_v rfl rfl rfl (ov_extract rfl rfl (by rfl)) ?_
    refine rl_v rfl rfl rfl (ov_assign rfl rfl) <| rl_v rfl rfl rfl (ov_assign rfl rfl) <| rl_nil <| run_seq <| run_region <| rl_v rfl rfl rfl (ov_move rfl rfl) <| rl_v rfl rfl rfl (ov_move rfl rfl) ?_
    refine rl_call callable_13 rfl rfl rfl rfl rfl rfl (Proof_any ga gc o k _ (by omega) hI (hg.reads hO75 1 rfl)) (fun e76 w77 hp78 => ?_)
    obtain ⟨pa, pn, pc, sa, sn, sc, Y2, A2, B2, cy, ch, rfl, hCr, hOe⟩ := hp78
    refine ⟨_, rfl, ?_⟩
    have hO79 := hO75.join hOe
    rw [decide_eq_false (show ¬ (o.chkK k = 0 ∧ ¬ o.Can k) from fun h => hne h.1)]
    obtain ⟨rfl, rfl⟩ := hCr.no_ (fun h => hne h.1)
    refine rl_v rfl rfl rfl (ov_move rfl rfl) <| rl_v rfl rfl rfl (ov_extract rfl rfl (by rfl)) ?_
    refine rl_v rfl rfl rfl (ov_extract rfl rfl (by rfl)) ?_
    refine rl_ow rfl (ow_alloc _ rfl rfl rfl zero_39 rfl hO79) ?_
    rintro _ w80 ⟨t13, rfl, hO81, hs82⟩
    refine rl_ow rfl (ow_storeW rfl rfl (by kernel_rfl) hO81 0 rfl rfl (by rfl) rfl (by rfl)) ?_
    rintro _ w83 ⟨rfl, hO84, hs85⟩
    refine rl_v rfl rfl rfl (ov_assign rfl rfl) <| rl_nil <| run_seq <| run_region <| rl_v rfl rfl rfl (ov_move rfl rfl) <| rl_v rfl rfl rfl (ov_move rfl rfl) ?_
    refine rl_call callable_14 rfl rfl rfl rfl rfl rfl (Delay_any ga gc o k _ (by omega) hI (hg.reads hO84 4 rfl)) (fun e86 w87 hp88 => ?_)
    obtain ⟨d, rfl, hD, hOe⟩ := hp88
    refine ⟨_, rfl, ?_⟩
    have hO89 := hO84.join hOe
    obtain rfl := hD.no_ hne
    refine rl_v rfl rfl rfl (ov_move rfl rfl) <| rl_v rfl rfl rfl (ov_extract rfl rfl (by rfl)) ?_
    refine rl_v rfl rfl rfl (ov_extract rfl rfl (by rfl)) ?_
    refine rl_v rfl rfl rfl (ov_assign rfl rfl) <| rl_v rfl rfl rfl (ov_assign rfl rfl) <| rl_nil <| run_seq <| run_region <| rl_v rfl rfl rfl (ov_move rfl rfl) <| rl_v rfl rfl rfl (ov_move rfl rfl) ?_
    refine rl_call callable_15 rfl rfl rfl rfl rfl rfl (Early_any ga gc o k _ (by omega) (fun h => absurd h hne) hI (hg.reads hO89 4 rfl)) (fun e90 w91 hp92 => ?_)
    obtain ⟨oa, on, oc, out, co, rfl, _, _, hz1, hOe⟩ := hp92
    refine ⟨_, rfl, ?_⟩
    have hO93 := hO89.join hOe
    have hEe : o.earE k = o.chkK k := by unfold Lds.earE; rw [if_neg hne]
    obtain rfl := hz1 (by rw [hEe]; exact hne)
    rw [hEe]
    refine rl_v rfl rfl rfl (ov_move rfl rfl) <| rl_v rfl rfl rfl (ov_extract rfl rfl (by rfl)) ?_
    refine rl_v rfl rfl rfl (ov_extract rfl rfl (by rfl)) ?_
    refine rl_v rfl rfl rfl (ov_assign rfl rfl) <| rl_v rfl rfl rfl (ov_assign rfl rfl) <| rl_nil <| run_seq <| run_region <| rl_v rfl rfl rfl (ov_move rfl rfl) <| rl_v rfl rfl rfl (ov_move rfl rfl) ?_
    refine rl_call callable_16 rfl rfl rfl rfl rfl rfl (Best_any ga gc o k _ (by omega) (fun h => absurd h hne) hI (hg.reads hO93 5 rfl)) (fun e94 w95 hp96 => ?_)
    obtain ⟨ba, bn, bc, Yb, s, cb, rfl, _, _, hz2, hOe⟩ := hp96
    refine ⟨_, rfl, ?_⟩
    have hO97 := hO93.join hOe
    have hEb : o.bestE k = o.chkK k := by unfold Lds.bestE; rw [if_neg hne]
    obtain ⟨rfl, rfl⟩ := hz2 (by rw [hEb]; exact hne)
    rw [hEb]
    refine rl_v rfl rfl rfl (ov_move rfl rfl) <| rl_v rfl rfl rfl (ov_extract rfl rfl (by rfl)) ?_
    refine rl_v rfl rfl rfl (ov_extract rfl rfl (by rfl)) ?_
    refine rl_v rfl rfl rfl (ov_extract rfl rfl (by rfl)) ?_
    refine rl_v rfl rfl rfl (ov_assign rfl rfl) <| rl_v rfl rfl rfl (ov_assign rfl rfl) <| rl_v rfl rfl rfl (ov_assign rfl rfl) <| rl_nil <| run_seq <| run_seq <| run_region <| rl_v rfl rfl rfl (ov_move rfl rfl) <| rl_v rfl rfl rfl (ov_move rfl rfl) ?_
    first | refine rl_noD 85 rfl (rfl) ?_ | refine rl_no 85 rfl (rfl) ?_
    refine rl_gv rfl rfl rfl rfl rfl (ov_move rfl rfl) <| rl_gv rfl rfl rfl rfl rfl (ov_move rfl rfl) <| rl_gv rfl rfl rfl rfl rfl (ov_neq rfl rfl rfl) <| rl_v rfl rfl rfl (ov_pick_f rfl rfl rfl) <| rl_v rfl rfl rfl (ov_move rfl rfl) ?_
    first | refine rl_noD 90 rfl ((fun h => h hK)) ?_ | refine rl_no 90 rfl ((fun h => h hK)) ?_
    refine rl_gv rfl rfl rfl rfl rfl (ov_move rfl rfl) <| rl_gv rfl rfl rfl rfl rfl (ov_len rfl Tryz.underlying33 rfl) <| rl_gv rfl rfl rfl rfl rfl (ov_neq rfl rfl rfl) <| rl_v rfl rfl rfl (ov_pick_f rfl rfl rfl) <| rl_v rfl rfl rfl (ov_move rfl rfl) ?_
    first | refine rl_noD 95 rfl ((fun h => h rfl)) ?_ | refine rl_no 95 rfl ((fun h => h rfl)) ?_
    refine rl_gv rfl rfl rfl rfl rfl (ov_move rfl rfl) <| rl_gv rfl rfl rfl rfl rfl (ov_move rfl rfl) <| rl_gv rfl rfl rfl rfl rfl (ov_neq rfl rfl rfl) <| rl_v rfl rfl rfl (ov_pick_f rfl rfl rfl) <| rl_v rfl rfl rfl (ov_move rfl rfl) ?_
    first | refine rl_noD 100 rfl ((fun h => h hK)) ?_ | refine rl_no 100 rfl ((fun h => h hK)) ?_
    refine rl_gv rfl rfl rfl rfl rfl (ov_move rfl rfl) <| rl_v rfl rfl rfl (ov_pick_f rfl rfl rfl) <| rl_v rfl rfl rfl (ov_move rfl rfl) ?_
    first | refine rl_noD 103 rfl (rfl) ?_ | refine rl_no 103 rfl (rfl) ?_
    refine rl_gv rfl rfl rfl rfl rfl (ov_fieldS rfl Tryz.underlying39 rfl (fo := 0) rfl (by kernel_rfl) rfl) ?_
    refine rl_gv rfl rfl rfl rfl rfl (ov_load rfl Tryz.underlying36 rfl rfl (by exact hO97.cellL 2 rfl (off := 0) rfl)) ?_
    refine rl_gv rfl rfl rfl rfl rfl (ov_len rfl Tryz.underlying36 rfl) <| rl_gv rfl rfl rfl rfl rfl (ov_neq rfl rfl rfl) <| rl_v rfl rfl rfl (ov_pick_f rfl rfl rfl) <| rl_v rfl rfl rfl (ov_move rfl rfl) ?_
    first | refine rl_noD 109 rfl ((fun h => h rfl)) ?_ | refine rl_no 109 rfl ((fun h => h rfl)) ?_
    refine rl_gv rfl rfl rfl rfl rfl (ov_fieldS rfl Tryz.underlying39 rfl (fo := 1) rfl (by kernel_rfl) rfl) ?_
    refine rl_gv rfl rfl rfl rfl rfl (ov_load rfl Tryz.underlying37 rfl rfl (by exact hO97.cellL 2 rfl (off := 1) rfl)) ?_
    refine rl_gv rfl rfl rfl rfl rfl (ov_len rfl Tryz.underlying37 rfl) <| rl_gv rfl rfl rfl rfl rfl (ov_neq rfl rfl rfl) <| rl_v rfl rfl rfl (ov_pick_f rfl rfl rfl) <| rl_v rfl rfl rfl (ov_move rfl rfl) ?_
    first | refine rl_noD 115 rfl ((fun h => h rfl)) ?_ | refine rl_no 115 rfl ((fun h => h rfl)) ?_
    refine rl_gv rfl rfl rfl rfl rfl (ov_move rfl rfl) <| rl_gv rfl rfl rfl rfl rfl (ov_neq rfl rfl rfl) <| rl_v rfl rfl rfl (ov_pick_f rfl rfl rfl) <| rl_v rfl rfl rfl (ov_move rfl rfl) ?_
    first | refine rl_noD 119 rfl ((fun h => h rfl)) ?_ | refine rl_no 119 rfl ((fun h => h rfl)) ?_
    refine rl_gv rfl rfl rfl rfl rfl (ov_move rfl rfl) <| rl_gv rfl rfl rfl rfl rfl (ov_move rfl rfl) <| rl_gv rfl rfl rfl rfl rfl (ov_neq rfl rfl rfl) <| rl_v rfl rfl rfl (ov_pick_f rfl rfl rfl) <| rl_v rfl rfl rfl (ov_move rfl rfl) ?_
    first | refine rl_noD 124 rfl ((fun h => h hK)) ?_ | refine rl_no 124 rfl ((fun h => h hK)) ?_
    refine rl_gv rfl rfl rfl rfl rfl (ov_move rfl rfl) <| rl_gv rfl rfl rfl rfl rfl (ov_len rfl Tryz.underlying36 rfl) <| rl_gv rfl rfl rfl rfl rfl (ov_neq rfl rfl rfl) <| rl_v rfl rfl rfl (ov_pick_f rfl rfl rfl) <| rl_v rfl rfl rfl (ov_move rfl rfl) ?_
    first | refine rl_noD 129 rfl ((fun h => h rfl)) ?_ | refine rl_no 129 rfl ((fun h => h rfl)) ?_
    refine rl_gv rfl rfl rfl rfl rfl (ov_move rfl rfl) <| rl_gv rfl rfl rfl rfl rfl (ov_move rfl rfl) <| rl_gv rfl rfl rfl rfl rfl (ov_neq rfl rfl rfl) <| rl_v rfl rfl rfl (ov_pick_f rfl rfl rfl) <| rl_v rfl rfl rfl (ov_move rfl rfl) ?_
    first | refine rl_noD 134 rfl ((fun h => h hK)) ?_ | refine rl_no 134 rfl ((fun h => h hK)) ?_
    refine rl_gv rfl rfl rfl rfl rfl (ov_move rfl rfl) <| rl_gv rfl rfl rfl rfl rfl (ov_len rfl Tryz.underlying36 rfl) <| rl_gv rfl rfl rfl rfl rfl (ov_neq rfl rfl rfl) <| rl_v rfl rfl rfl (ov_pick_f rfl rfl rfl) <| rl_v rfl rfl rfl (ov_move rfl rfl) ?_
    first | refine rl_noD 139 rfl ((fun h => h rfl)) ?_ | refine rl_no 139 rfl ((fun h => h rfl)) ?_
    refine rl_gv rfl rfl rfl rfl rfl (ov_move rfl rfl) <| rl_gv rfl rfl rfl rfl rfl (ov_neq rfl rfl rfl) <| rl_v rfl rfl rfl (ov_pick_f rfl rfl rfl) <| rl_v rfl rfl rfl (ov_move rfl rfl) ?_
    first | refine rl_noD 143 rfl ((fun h => h rfl)) ?_ | refine rl_no 143 rfl ((fun h => h rfl)) ?_
    refine rl_gv rfl rfl rfl rfl rfl (ov_move rfl rfl) <| rl_gv rfl rfl rfl rfl rfl (ov_move rfl rfl) <| rl_gv rfl rfl rfl rfl rfl (ov_neq rfl rfl rfl) <| rl_v rfl rfl rfl (ov_pick_f rfl rfl rfl) <| rl_v rfl rfl rfl (ov_move rfl rfl) ?_
    first | refine rl_noD 148 rfl ((fun h => h hK)) ?_ | refine rl_no 148 rfl ((fun h => h hK)) ?_
    refine rl_gv rfl rfl rfl rfl rfl (ov_move rfl rfl) <| rl_gv rfl rfl rfl rfl rfl (ov_move rfl rfl) ?_
    refine rl_gcall callable_17 rfl rfl rfl rfl rfl rfl rfl rfl (isPlan7_any ga gc o k none 0 [] _ (by omega) hI (by decide) (hg.reads hO97 6 rfl) (SAt.nil _ _ _ _ _)) (fun e98 w99 hp100 => ?_)
    obtain ⟨rfl, hOe⟩ := hp100
    refine ⟨_, rfl, ?_⟩
    have hO101 := hO97.join hOe
    rw [decide_eq_false (show ¬ (o.chkK k = 0 ∧ PlanOk o k []) from fun h => hne h.1)]
    refine rl_v rfl rfl rfl (ov_pick_f rfl rfl rfl) <| rl_v rfl rfl rfl (ov_move rfl rfl) ?_
    first | refine rl_noD 153 rfl (rfl) ?_ | refine rl_no 153 rfl (rfl) ?_
    refine rl_gv rfl rfl rfl rfl rfl (ov_move rfl rfl) <| rl_gv rfl rfl rfl rfl rfl (ov_move rfl rfl) <| rl_gv rfl rfl rfl rfl rfl (ov_buildL rfl lay_39 rfl (us := [_, _]) rfl) ?_
    refine rl_gcall callable_18 rfl rfl rfl rfl rfl rfl rfl rfl (proves7_any ga gc o k none 0 0 none 0 0 (fun _ => 0) (fun _ => 0) (fun _ => 0) _ (by omega) hI (by decide) (by decide) (hg.reads hO101 6 rfl) (IAt.nil _ _ _ _) (SAt.nil _ _ _ _ _)) (fun e102 w103 hp104 => ?_)
    obtain ⟨rfl, hOe⟩ := hp104
    refine ⟨_, rfl, ?_⟩
    have hO105 := hO101.join hOe
    rw [decide_eq_false (show ¬ (o.chkK k = 0 ∧ Prv o k 0 (fun _ => 0) 0 (fun _ => 0) (fun _ => 0)) from fun h => hne h.1)]
    refine rl_v rfl rfl rfl (ov_pick_f rfl rfl rfl) <| rl_nil <| run_cond_f rfl <| run_skip <| run_seq <| run_seq <| run_region <| rl_v rfl rfl rfl (ov_move rfl rfl) <| rl_v rfl rfl rfl (ov_neq rfl rfl rfl) <| rl_nil ?_
    first | refine run_cond_dec rfl (fun c4 => ?_) (fun c4 => ?_) | refine run_cond rfl (fun c4 => ?_) (fun c4 => ?_)
    ·refine run_seq <| run_region <| rl_v rfl rfl rfl (ov_move rfl rfl) ?_
     refine rl_call callable_19 rfl rfl rfl rfl rfl rfl (Kilns_any ga gc o _ (by omega) hI (hg.reads hO105 6 rfl)) (fun e106 w107 hp108 => ?_)
     obtain ⟨n, rfl, hKi, hOe⟩ := hp108
     refine ⟨_, rfl, ?_⟩
     have hO109 := hO105.join hOe
     obtain rfl := hKi.no_ hz
     refine rl_v rfl rfl rfl (ov_move rfl rfl) <| rl_v rfl rfl rfl (ov_extract rfl rfl (by rfl)) ?_
     refine rl_v rfl rfl rfl (ov_extract rfl rfl (by rfl)) ?_
     refine rl_v rfl rfl rfl (ov_assign rfl rfl) <| rl_v rfl rfl rfl (ov_assign rfl rfl) <| rl_nil <| run_seq <| run_region <| rl_v rfl rfl rfl (ov_move rfl rfl) ?_
     refine rl_call callable_20 rfl rfl rfl rfl rfl rfl (Busy_any ga gc o _ (by omega) hI (hg.reads hO109 6 rfl)) (fun e110 w111 hp112 => ?_)
     obtain ⟨ua, uc, U, cu, uu, XX, rfl, _, _, hz3, hOe⟩ := hp112
     refine ⟨_, rfl, ?_⟩
     have hO113 := hO109.join hOe
     obtain rfl := hz3 hz
     refine rl_v rfl rfl rfl (ov_move rfl rfl) <| rl_v rfl rfl rfl (ov_extract rfl rfl (by rfl)) ?_
     refine rl_v rfl rfl rfl (ov_extract rfl rfl (by rfl)) ?_
     refine rl_v rfl rfl rfl (ov_assign rfl rfl) <| rl_v rfl rfl rfl (ov_assign rfl rfl) <| rl_nil <| run_seq <| run_region <| rl_v rfl rfl rfl (ov_move rfl rfl) <| rl_v rfl rfl rfl (ov_eql rfl rfl rfl) <| rl_v rfl rfl rfl (ov_move rfl rfl) ?_
     first | refine rl_yesD 173 rfl (rfl) ?_ | refine rl_yes 173 rfl (rfl) ?_
     refine rl_gv rfl rfl rfl rfl rfl (ov_move rfl rfl) <| rl_gv rfl rfl rfl rfl rfl (ov_move rfl rfl) <| rl_gv rfl rfl rfl rfl rfl (ov_eql rfl rfl rfl) <| rl_v rfl rfl rfl (ov_pick_t rfl rfl rfl) <| rl_v rfl rfl rfl (ov_move rfl rfl) ?_
     first | refine rl_yesD 178 rfl (rfl) ?_ | refine rl_yes 178 rfl (rfl) ?_
     refine rl_gv rfl rfl rfl rfl rfl (ov_move rfl rfl) <| rl_gv rfl rfl rfl rfl rfl (ov_len rfl Tryz.underlying51 rfl) <| rl_gv rfl rfl rfl rfl rfl (ov_eql rfl rfl rfl) <| rl_v rfl rfl rfl (ov_pick_t rfl rfl rfl) <| rl_v rfl rfl rfl (ov_move rfl rfl) ?_
     first | refine rl_yesD 183 rfl (rfl) ?_ | refine rl_yes 183 rfl (rfl) ?_
     refine rl_gv rfl rfl rfl rfl rfl (ov_move rfl rfl) <| rl_gv rfl rfl rfl rfl rfl (ov_move rfl rfl) <| rl_gv rfl rfl rfl rfl rfl (ov_eql rfl rfl rfl) <| rl_v rfl rfl rfl (ov_pick_t rfl rfl rfl) <| rl_v rfl rfl rfl (ov_move rfl rfl) ?_
     first | refine rl_yesD 188 rfl (rfl) ?_ | refine rl_yes 188 rfl (rfl) ?_
     refine rl_gcall callable_10 rfl rfl rfl rfl rfl rfl rfl rfl (awake7_any _) (fun e114 w115 hp116 => ?_)
     obtain ⟨rfl, hOh⟩ := hp116
     refine ⟨_, rfl, ?_⟩
     have hO117 := hO113.join hOh
     refine rl_v rfl rfl rfl (ov_pick_t rfl rfl rfl) <| rl_v rfl rfl rfl (ov_assign rfl rfl) <| rl_nil <| run_ret Tryz.func3 (res1 Tryz.results3 rfl) ?_
     exact ⟨rfl, hO117.below⟩
    ·exfalso; exact c4 hz
end Go.Proofs.YtbepolognfdkeaaGreat
