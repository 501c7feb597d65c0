import Derived.Test.YtbcjfjldmfljgaaGreatPrF
set_option maxRecDepth 100000
namespace Go.Proofs.YtbcjfjldmfljgaaGreat
open Go.RowKit Go.Proofs Go.MapKept
set_option maxHeartbeats 4000000 in
theorem zones_any (la : Option Addr) (lc N n : Nat) (v Z : Int → Int) (w : World) (hN : 1 ≤ N ∧ N ≤ 8) (hn : 1 ≤ n ∧ n ≤ 8) (h : Bds N v Z) (hv : ∀ i : Int, 0 ≤ i → i < N → v i ≤ 100000) (hl : SAt w.heap.size w la 3 (N + 1) (bdF N n v)) :
  Calls Tryz.prog 35 #[.slice la (N + 1 : Nat) lc] w fun e w' => ∃ (va : Option Addr) (vc : Nat) (c : Option Blk), e = .returned (.slice va (N + 1) vc) ∧ SRow (.slice va (N + 1) vc) 69 4 (N + 1) (znF (zonesL N n v Z)) c ∧ Own w.heap.size w w' [c] := by
 obtain ⟨lb, lo, hla, hlr⟩ := hl.open (by decide)
 refine calls_of_run (F := [(0, _)]) Tryz.func35 rfl Tryz.ntmps35 rfl rfl ?_
 have hO0 := Own.init w
 refine run_seq <| run_region <| rl_v rfl rfl rfl (ov_assign rfl rfl) <| rl_nil <| run_seq <| run_region <| rl_ow rfl (ow_one rfl rfl rfl Tryz.underlying22 info_2 rfl hO0 rfl rfl) ?_
 rintro _ w1 ⟨b14, rfl, hO2, hs3⟩
 refine rl_v rfl rfl rfl (ov_assign rfl rfl) <| rl_nil <| run_seq <| run_region <| rl_ow rfl (ow_makemap rfl rfl rfl hO2) ?_
 rintro _ w4 ⟨ub, rfl, hO5, hs6⟩
 refine rl_ow rfl (ow_makemap rfl rfl rfl hO5) ?_
 rintro _ w7 ⟨db, rfl, hO8, hs9⟩
 have hr0 : IRow (.slice (some ⟨b14, 0, none⟩) 1 1) 2 (0 + 1) (fun j => iv (chX N v j)) (some (vch b14 2 1 (fun _ => iv 1))) := IRow.ofV (Nat.le_refl _) (by unfold maxLen; omega) (fun j j0 j1 => by unfold chX; rw [if_pos (by omega)])
 refine rl_v rfl rfl rfl (ov_assign rfl rfl) <| rl_v rfl rfl rfl (ov_assign rfl rfl) <| rl_nil <| run_seq <| run_region <| rl_v rfl rfl rfl (ov_assign rfl rfl) <| rl_nil <| run_seq <| run_seq <| run_region <| rl_v rfl rfl rfl (ov_move rfl rfl) <| rl_v rfl rfl rfl (ov_len rfl Tryz.underlying24 rfl) <| rl_v rfl rfl rfl (ov_move rfl rfl) <| rl_nil <| run_block <| Run.keep [3, 4, 5, 6, 17, 18, 19] (F' := [(3, _), (4, _), (5, _), (6, _), (17, _), (18, _), (19, _)]) rfl <| run_loop3 (fun (i : Nat) (v3 : Value) (dm : Int) => [(19, .int .i64 (i : Int)), (3, v3), (6, .int .i64 dm)]) [4, 5, 17, 18] (fun (i : Nat) (v3 : Value) (dm : Int) (w10 : World) => i ≤ N + 1 ∧ ∃ (c3 : Option Blk) (Lu Ld : List (Int × Value)), IRow v3 2 (i + 1) (fun j => iv (chX N v j)) c3 ∧ dm = min (i : Int) N ∧ MI Lu (fun x => if (i : Int) = N + 1 ∧ x = 1 then n else 0) ∧ MI Ld (dnF v (min (i : Int) N)) ∧ Own w.heap.size w w10 [some (mch db Ld), some (mch ub Lu), c3]) (fun (i : Nat) (v3 : Value) (dm : Int) => N + 1 - i) (0) (.slice (some ⟨b14, 0, none⟩) 1 1) (0) ?_ (And.intro (by exact slot_int rfl (by first | omega)) (And.intro rfl (And.intro (by exact slot_int rfl (by first | omega)) (And.intro rfl (And.intro rfl (And.intro rfl (And.intro rfl trivial))))))) ?_
 ·exact ⟨Nat.zero_le _, _, [], [], hr0, by omega, fun x => by (show iv 0 = iv (if ((0 : Nat) : Int) = N + 1 ∧ x = 1 then (n : Int) else 0); rw [if_neg (by omega)]), fun x => by rw [show min ((0 : Nat) : Int) N = 0 by omega]; rfl, hO8⟩
 intro i v3 dm w10 hIw10 ih11
 obtain ⟨hi, c3, Lu, Ld, hr3, hdm, hU, hD, hO1⟩ := hIw10
 show Run _ _ _ _ [(19, _), (3, _), (6, _), (4, _), (5, _), (17, _), (18, _)] _ _
 refine run_seq <| run_region <| rl_v rfl rfl rfl (ov_lss rfl rfl rfl) <| rl_nil <| run_seq ?_
 first | refine run_cond_dec rfl (fun c1 => ?_) (fun c1 => ?_) | refine run_cond rfl (fun c1 => ?_) (fun c1 => ?_)
 ·refine run_skip <| run_seq <| run_block <| run_seq <| run_region <| rl_v rfl rfl rfl (ov_index rfl Tryz.underlying24 (by kernel_rfl) (s := 3) rfl rfl ⟨by omega, by omega⟩ (by exact hla (by omega))) ?_
  refine rl_v rfl rfl rfl (ov_loadE rfl Tryz.underlying28 rfl (by kernel_rfl) rfl ⟨by omega, by omega⟩ rfl ((hlr _ hO1.below))) ?_
  refine rl_ow rfl (ow_alloc _ rfl rfl rfl zero_28 rfl hO1) ?_
  rintro _ w12 ⟨x8, rfl, hO13, hs14⟩
  refine rl_ow rfl (ow_storeW rfl rfl (by kernel_rfl) hO13 0 rfl rfl (by rfl) rfl (by rfl)) ?_
  rintro _ w15 ⟨rfl, hO16, hs17⟩
  have hO2 : Own w.heap.size w w15 [some (lch x8 28 (bdF N n v i)), some (mch db Ld), some (mch ub Lu), c3] := hO16
  refine rl_nil <| run_seq <| run_region <| rl_v rfl rfl rfl (ov_fieldS rfl Tryz.underlying28 rfl (fo := 0) rfl (by kernel_rfl) rfl) ?_
  refine rl_v rfl rfl rfl (ov_load rfl Tryz.underlying3 rfl rfl (by exact hO2.cellL 0 rfl (off := 0) rfl)) ?_
  refine rl_v rfl rfl rfl (ov_eql rfl rfl rfl) <| rl_nil ?_
  first | refine run_cond_dec rfl (fun c2 => ?_) (fun c2 => ?_) | refine run_cond rfl (fun c2 => ?_) (fun c2 => ?_)
  ·have hiN : (i : Int) < N := Classical.byContradiction fun hn => by unfold mkS at c2; rw [if_neg hn] at c2; omega
   have hdi : dm = i := by omega
   have hm1 : min (i : Int) N = i := by omega
   have hp : mkP N v i = v i := if_pos hiN
   have hq : mkQ N n i = 1 := if_pos hiN
   have hvi := hv i (by omega) hiN
   have hv1 := h.p1 i (by omega) hiN
   have hdr := dnF_rng v (show (0 : Int) ≤ i by omega) (mkP N v i + 1)
   rw [hm1] at hD
   refine run_seq <| run_region <| rl_v rfl rfl rfl (ov_move rfl rfl) <| rl_v rfl rfl rfl (ov_fieldS rfl Tryz.underlying28 rfl (fo := 2) rfl (by kernel_rfl) rfl) ?_
   refine rl_v rfl rfl rfl (ov_load rfl Tryz.underlying2 rfl rfl (by exact hO2.cellL 0 rfl (off := 2) rfl)) ?_
   refine rl_v rfl rfl rfl (ov_add rfl rfl rfl (by omega)) ?_
   refine rl_v rfl rfl rfl (ov_assign rfl rfl) <| rl_nil <| run_seq <| run_region <| rl_v rfl rfl rfl (ov_move rfl rfl) <| rl_v rfl rfl rfl (ov_fieldS rfl Tryz.underlying28 rfl (fo := 1) rfl (by kernel_rfl) rfl) ?_
   refine rl_v rfl rfl rfl (ov_load rfl Tryz.underlying2 rfl rfl (by exact hO2.cellL 0 rfl (off := 1) rfl)) ?_
   refine rl_v rfl rfl rfl (ov_add rfl rfl rfl (by omega)) ?_
   refine rl_v rfl rfl rfl (ov_lookupP rfl Tryz.underlying103 Tryz.underlying2 zero_2 rfl rfl (hO2.mapAt 1 rfl) (hD (mkP N v i + 1))) <| rl_v rfl rfl rfl (ov_fieldS rfl Tryz.underlying28 rfl (fo := 2) rfl (by kernel_rfl) rfl) ?_
   refine rl_v rfl rfl rfl (ov_load rfl Tryz.underlying2 rfl rfl (by exact hO2.cellL 0 rfl (off := 2) rfl)) ?_
   refine rl_v rfl rfl rfl (ov_add rfl rfl rfl (by omega)) ?_
   refine rl_ow rfl (ow_mapput rfl rfl Tryz.underlying103 Tryz.underlying2 hO2 1 rfl rfl rfl rfl) ?_
   rintro _ w18 ⟨rfl, hO19, hs20⟩
   refine rl_nil <| run_region <| rl_v rfl rfl rfl (ov_move rfl rfl) <| rl_v rfl rfl rfl (ov_fieldS rfl Tryz.underlying28 rfl (fo := 1) rfl (by kernel_rfl) rfl) ?_
   refine rl_v rfl rfl rfl (ov_load rfl Tryz.underlying2 rfl rfl (by exact hO19.cellL 0 rfl (off := 1) rfl)) ?_
   refine rl_v rfl rfl rfl (ov_add rfl rfl rfl (by omega)) ?_
   refine rl_ow rfl (ow_one rfl rfl rfl Tryz.underlying22 info_2 rfl hO19 rfl rfl) ?_
   rintro _ w21 ⟨b42, rfl, hO22, hs23⟩
   refine rl_ow rfl (ow_app1 rfl rfl rfl Tryz.underlying22 info_2 rfl hO22 3 hr3 rfl rfl rfl rfl ⟨by omega, by omega⟩) ?_
   rintro _ w24 ⟨v43, c43, rfl, hO25, hv43, hs26⟩
   have hr4 : IRow v43 2 (i + 1 + 1) (fun j => iv (chX N v j)) c43 := hv43.congr fun j j0 j1 => by
    by_cases e : j = ((i + 1 : Nat) : Int)
    ·rw [e, upd_same]; unfold chX; rw [if_neg (by omega), if_pos (by omega), show ((i + 1 : Nat) : Int) - 1 = i by omega, hp]
    ·rw [upd_ne _ _ e]
   have hD2 := hD.put (mkP N v i + 1) (dnF v i (mkP N v i + 1) + mkQ N n i) (h := dnF v (min ((i + 1 : Nat) : Int) N)) (fun x => by
    rw [show min ((i + 1 : Nat) : Int) N = (i : Int) + 1 by omega, dnF_succ v (by omega), hp, hq]
    by_cases c : x = v i + 1
    ·rw [if_pos c, c, if_pos rfl]
    ·rw [if_neg c, if_neg fun e => c e.symm, Int.add_zero])
   refine rl_v rfl rfl rfl (ov_assign rfl rfl) <| rl_nil <| run_inBlock <| run_region <| rl_v rfl rfl rfl (ov_add rfl rfl rfl (by omega)) ?_
   refine rl_v rfl rfl rfl (ov_move rfl rfl) <| rl_nil ?_
   refine Run.use (ih11 (i + 1) (v43) (dm + mkQ N n i) _ ?_ ?_) (And.intro (by exact slot_int rfl (by first | omega)) (And.intro rfl (And.intro (by exact slot_int rfl (by first | omega)) (And.intro rfl (And.intro rfl (And.intro rfl (And.intro rfl trivial)))))))
   ·first | omega | (dsimp only; omega)
   ·exact ⟨by omega, c43, _, _, hr4, by omega, fun x => by (rw [hU x]; dsimp only; rw [if_neg (by omega), if_neg (by omega)]), hD2, hO25.tail⟩
  ·have hiN : (i : Int) = N := Classical.byContradiction fun hn => c2 (by unfold mkS; rw [if_pos (by omega)])
   have hp : mkP N v i = 1 := if_neg (by omega)
   have hq : mkQ N n i = n := if_neg (by omega)
   have hu0 : (lkp Lu (mkP N v i)).getD (iv 0) = iv 0 := (hU _).trans (congrArg iv (if_neg (by omega)))
   refine run_seq <| run_region <| rl_v rfl rfl rfl (ov_move rfl rfl) <| rl_v rfl rfl rfl (ov_fieldS rfl Tryz.underlying28 rfl (fo := 1) rfl (by kernel_rfl) rfl) ?_
   refine rl_v rfl rfl rfl (ov_load rfl Tryz.underlying2 rfl rfl (by exact hO2.cellL 0 rfl (off := 1) rfl)) ?_
   refine rl_v rfl rfl rfl (ov_lookupP rfl Tryz.underlying103 Tryz.underlying2 zero_2 rfl rfl (hO2.mapAt 2 rfl) hu0) <| rl_v rfl rfl rfl (ov_fieldS rfl Tryz.underlying28 rfl (fo := 2) rfl (by kernel_rfl) rfl) ?_
   refine rl_v rfl rfl rfl (ov_load rfl Tryz.underlying2 rfl rfl (by exact hO2.cellL 0 rfl (off := 2) rfl)) ?_
   refine rl_v rfl rfl rfl (ov_add rfl rfl rfl (by omega)) ?_
   refine rl_ow rfl (ow_mapput rfl rfl Tryz.underlying103 Tryz.underlying2 hO2 2 rfl rfl rfl rfl) ?_
   rintro _ w27 ⟨rfl, hO28, hs29⟩
   refine rl_nil <| run_region <| rl_v rfl rfl rfl (ov_move rfl rfl) <| rl_v rfl rfl rfl (ov_fieldS rfl Tryz.underlying28 rfl (fo := 1) rfl (by kernel_rfl) rfl) ?_
   refine rl_v rfl rfl rfl (ov_load rfl Tryz.underlying2 rfl rfl (by exact hO28.cellL 0 rfl (off := 1) rfl)) ?_
   refine rl_ow rfl (ow_one rfl rfl rfl Tryz.underlying22 info_2 rfl hO28 rfl rfl) ?_
   rintro _ w30 ⟨b54, rfl, hO31, hs32⟩
   refine rl_ow rfl (ow_app1 rfl rfl rfl Tryz.underlying22 info_2 rfl hO31 3 hr3 rfl rfl rfl rfl ⟨by omega, by omega⟩) ?_
   rintro _ w33 ⟨v55, c55, rfl, hO34, hv55, hs35⟩
   have hr4 : IRow v55 2 (i + 1 + 1) (fun j => iv (chX N v j)) c55 := hv55.congr fun j j0 j1 => by
    by_cases e : j = ((i + 1 : Nat) : Int)
    ·rw [e, upd_same]; unfold chX; rw [if_neg (by omega), if_neg (by omega), hp]
    ·rw [upd_ne _ _ e]
   have hU2 := hU.put (mkP N v i) (0 + mkQ N n i) (h := fun x => if ((i + 1 : Nat) : Int) = N + 1 ∧ x = 1 then n else 0) (fun x => by
    show (if ((i + 1 : Nat) : Int) = N + 1 ∧ x = 1 then (n : Int) else 0) = if x = mkP N v i then 0 + mkQ N n i else if (i : Int) = N + 1 ∧ x = 1 then (n : Int) else 0
    rw [hp, hq]
    by_cases c : x = 1
    ·rw [if_pos ⟨by omega, c⟩, if_pos c]; omega
    ·rw [if_neg fun q => c q.2, if_neg c, if_neg fun q => c q.2])
   have hD2 : MI Ld (dnF v (min ((i + 1 : Nat) : Int) N)) := by
    rw [show min ((i + 1 : Nat) : Int) N = min (i : Int) N by omega]; exact hD
   refine rl_v rfl rfl rfl (ov_assign rfl rfl) <| rl_nil <| run_inBlock <| run_region <| rl_v rfl rfl rfl (ov_add rfl rfl rfl (by omega)) ?_
   refine rl_v rfl rfl rfl (ov_move rfl rfl) <| rl_nil ?_
   refine Run.use (ih11 (i + 1) (v55) (dm) _ ?_ ?_) (And.intro (by exact slot_int rfl (by first | omega)) (And.intro rfl (And.intro (by exact slot_int rfl (by first | omega)) (And.intro rfl (And.intro rfl (And.intro rfl (And.intro rfl trivial)))))))
   ·first | omega | (dsimp only; omega)
   ·exact ⟨by omega, c55, _, _, hr4, by omega, hU2, hD2, hO34.tail⟩
 ·have hiN : i = N + 1 := by omega
  subst hiN
  have hdN : dm = N := by omega
  rw [show min ((N + 1 : Nat) : Int) N = (N : Int) by omega] at hD
  obtain ⟨a3, k3, rfl⟩ := Row.val hr3
  obtain ⟨sb, G3, rfl, hc1, hc2, rfl, hG3⟩ := hr3.asV (by omega)
  have hOp := hO1.perm (List.perm_append_comm (l₁ := [_, _]) (l₂ := [_]))
  refine run_exit rfl <| run_seq <| run_region <| rl_v rfl rfl rfl (ov_move rfl rfl) ?_
  refine rl_call callable_67 rfl rfl rfl rfl rfl rfl (sort64_any sb k3 (N + 1 + 1) w.heap.size G3 (chX N v) w _ _ ⟨by omega, by omega⟩ hc1 ⟨hG3, fun _ => Iff.rfl⟩ hOp) (fun e36 w37 hp38 => ?_)
  obtain ⟨rfl, G4, X4, hO4, hS4, hle4⟩ := hp38
  refine ⟨_, rfl, ?_⟩
  refine rl_nil <| run_seq <| run_region <| rl_v rfl rfl rfl (ov_move rfl rfl) ?_
  refine rl_call callable_68 rfl rfl rfl rfl rfl rfl (compact64_any sb k3 (N + 1 + 1) w.heap.size G4 X4 w _ _ ⟨by omega, by omega⟩ hc1 hS4.g hle4 hO4) (fun e39 w40 hp41 => ?_)
  obtain ⟨m, G5, Y, rfl, hmn, hG5, hC, hO5⟩ := hp41
  refine ⟨_, rfl, ?_⟩
  obtain ⟨rfl, hY⟩ : m = N + 1 ∧ ∀ j : Int, 0 ≤ j → j < m → Y j = zS N v Z j := rise_uniq hC.r (zS_rise h) fun x => (hC.same x).trans ((hS4.same x).trans (zS_same h x).symm)
  have hst : ∀ k : Int, 0 ≤ k → k < ((N + 1 : Nat) : Int) → G5 k = iv (zS N v Z k) := fun k k0 k1 => (hG5 k k0 k1).trans (congrArg iv (hY k k0 k1))
  have hOn := hO5.nil_cons
  refine rl_v rfl rfl rfl (ov_assign rfl rfl) <| rl_nil <| run_seq <| run_region <| rl_v rfl rfl rfl (ov_assign rfl rfl) <| rl_nil <| run_seq <| run_region <| rl_v rfl rfl rfl (ov_assign rfl rfl) <| rl_nil <| run_seq <| run_seq <| run_region <| rl_v rfl rfl rfl (ov_move rfl rfl) <| rl_v rfl rfl rfl (ov_len rfl Tryz.underlying22 rfl) <| rl_v rfl rfl rfl (ov_move rfl rfl) <| rl_nil <| run_block <| Run.keep [3, 4, 5, 6, 9, 10, 61, 62, 63] (F' := [(3, _), (4, _), (5, _), (6, _), (9, _), (10, _), (61, _), (62, _), (63, _)]) rfl <| run_loop4 (fun (k : Nat) (d2 : Int) (s2 : Int) (v10 : Value) => [(63, .int .i64 (k : Int)), (6, .int .i64 d2), (9, .int .i64 s2), (10, v10)]) [3, 4, 5, 61, 62] (fun (k : Nat) (d2 : Int) (s2 : Int) (v10 : Value) (w42 : World) => k ≤ N + 1 ∧ ∃ c10 : Option Blk, d2 = N - max ((k : Int) - 1) 0 ∧ s2 = (if (k : Int) = 0 then 0 else (n : Int)) ∧ SRow v10 69 4 k (znF (zonesL N n v Z)) c10 ∧ Own w.heap.size w w42 [c10, some (vch sb 2 k3 G5), some (mch db Ld), some (mch ub Lu)]) (fun (k : Nat) (d2 : Int) (s2 : Int) (v10 : Value) => N + 1 - k) (0) (dm) (0) (.slice none 0 0) ?_ (And.intro (by exact slot_int rfl (by first | omega)) (And.intro (by exact slot_int rfl (by first | omega)) (And.intro (by exact slot_int rfl (by first | omega)) (And.intro rfl (And.intro rfl (And.intro rfl (And.intro rfl (And.intro rfl (And.intro rfl trivial))))))))) ?_
  ·exact ⟨Nat.zero_le _, none, by omega, (if_pos (by omega)).symm, SRow.nil _ _ _, hOn⟩
  intro k d2 s2 v10 w42 hIw42 ih43
  obtain ⟨hk, c10, hd2, hs2, hr10, hO6⟩ := hIw42
  show Run _ _ _ _ [(63, _), (6, _), (9, _), (10, _), (3, _), (4, _), (5, _), (61, _), (62, _)] _ _
  refine run_seq <| run_region <| rl_v rfl rfl rfl (ov_lss rfl rfl rfl) <| rl_nil <| run_seq ?_
  first | refine run_cond_dec rfl (fun c3 => ?_) (fun c3 => ?_) | refine run_cond rfl (fun c3 => ?_) (fun c3 => ?_)
  ·have hkN : (k : Int) ≤ N := by omega
   have hz1 : 1 ≤ zS N v Z k ∧ zS N v Z k ≤ 100001 := by
    unfold zS
    by_cases c : (k : Int) = 0
    ·rw [if_pos c]; omega
    ·rw [if_neg c]
     have hr := h.rng (N - k) (by omega) (by omega)
     have := h.p1 _ hr.1 hr.2
     have := hv _ hr.1 hr.2
     omega
   have hlD : (lkp Ld (zS N v Z k)).getD (iv 0) = iv (if (k : Int) = 0 then 0 else 1) := by
    rw [hD]
    by_cases c : (k : Int) = 0
    ·rw [if_pos c, c, show zS N v Z 0 = 1 from if_pos rfl, dnF_zero h]
    ·rw [if_neg c, dnF_one h (by omega) hkN]
   have hlU : (lkp Lu (zS N v Z k)).getD (iv 0) = iv (if (k : Int) = 0 then (n : Int) else 0) := by
    rw [hU]
    dsimp only
    by_cases c : (k : Int) = 0
    ·rw [if_pos c, c, show zS N v Z 0 = 1 from if_pos rfl, if_pos ⟨by omega, rfl⟩]
    ·have hr := h.rng (N - k) (by omega) (by omega)
     have := h.p1 _ hr.1 hr.2
     rw [if_neg c, if_neg fun q => by have := q.2; unfold zS at this; rw [if_neg c] at this; omega]
   obtain ⟨dk, hdk⟩ : ∃ dk : Int, dk = if (k : Int) = 0 then 0 else 1 := ⟨_, rfl⟩
   obtain ⟨uk, huk⟩ : ∃ uk : Int, uk = if (k : Int) = 0 then (n : Int) else 0 := ⟨_, rfl⟩
   rw [← hdk] at hlD
   rw [← huk] at hlU
   have hdk2 : d2 - dk = N - k := by rw [hdk]; split <;> omega
   have huk2 : s2 + uk = n := by rw [huk, hs2]; split <;> omega
   have hdr : 0 ≤ dk ∧ dk ≤ 1 := by rw [hdk]; split <;> omega
   have hur : 0 ≤ uk ∧ uk ≤ 8 := by rw [huk]; split <;> omega
   have hsr : 0 ≤ s2 ∧ s2 ≤ 8 := by rw [hs2]; split <;> omega
   refine run_skip <| run_seq <| run_block <| run_seq <| run_region <| rl_v rfl rfl rfl (ov_move rfl rfl) <| rl_v rfl rfl rfl (ov_index1 rfl Tryz.underlying22 (by kernel_rfl) rfl rfl ⟨by omega, by omega⟩ (by rfl)) ?_
   refine rl_v rfl rfl rfl (ov_load rfl Tryz.underlying2 rfl rfl (by exact (hO6.cellI 1 rfl (k : Int) (by omega) (by omega)).trans (congrArg some (hst k (by omega) c3)))) ?_
   refine rl_v rfl rfl rfl (ov_assign rfl rfl) <| rl_v rfl rfl rfl (ov_assign rfl rfl) <| rl_nil <| run_seq <| run_region <| rl_v rfl rfl rfl (ov_move rfl rfl) <| rl_v rfl rfl rfl (ov_move rfl rfl) <| rl_v rfl rfl rfl (ov_move rfl rfl) <| rl_v rfl rfl rfl (ov_lookupP rfl Tryz.underlying103 Tryz.underlying2 zero_2 rfl rfl (hO6.mapAt 2 rfl) hlD) <| rl_v rfl rfl rfl (ov_sub rfl rfl rfl (by omega)) ?_
   refine rl_v rfl rfl rfl (ov_assign rfl rfl) <| rl_nil <| run_seq <| run_region <| rl_v rfl rfl rfl (ov_move rfl rfl) <| rl_v rfl rfl rfl (ov_move rfl rfl) <| rl_v rfl rfl rfl (ov_move rfl rfl) <| rl_v rfl rfl rfl (ov_lookupP rfl Tryz.underlying103 Tryz.underlying2 zero_2 rfl rfl (hO6.mapAt 3 rfl) hlU) <| rl_v rfl rfl rfl (ov_add rfl rfl rfl (by omega)) ?_
   refine rl_v rfl rfl rfl (ov_assign rfl rfl) <| rl_nil <| run_seq <| run_region <| rl_v rfl rfl rfl (ov_assign rfl rfl) <| rl_nil <| run_seq <| run_seq <| run_region <| rl_v rfl rfl rfl (ov_move rfl rfl) <| rl_v rfl rfl rfl (ov_add rfl rfl rfl (by omega)) ?_
   refine rl_v rfl rfl rfl (ov_move rfl rfl) <| rl_v rfl rfl rfl (ov_len rfl Tryz.underlying22 rfl) <| rl_v rfl rfl rfl (ov_lss rfl rfl rfl) <| rl_nil <| Run.keep [3, 4, 5, 6, 9, 10, 11, 12, 13, 61, 62, 63, 82] (F' := [(3, _), (4, _), (5, _), (6, _), (9, _), (10, _), (11, _), (12, _), (13, _), (61, _), (62, _), (63, _), (82, _)]) rfl <| run_join1 (fun (to : Int) => [(13, .int .i64 to)]) [3, 4, 5, 6, 9, 10, 12, 61, 62, 63] (fun (to : Int) (w44 : World) => to = zT N v Z k ∧ Own w.heap.size w w44 [c10, some (vch sb 2 k3 G5), some (mch db Ld), some (mch ub Lu)]) (fun hk45 => ?_) ?_
   ·first | refine run_cond_dec rfl (fun c4 => ?_) (fun c4 => ?_) | refine run_cond rfl (fun c4 => ?_) (fun c4 => ?_)
    ·have hz2 : zS N v Z ((k : Int) + 1) = zT N v Z k + 1 := by
      unfold zS zT
      rw [if_neg (by omega), if_pos (by omega), show (N : Int) - ((k : Int) + 1) = N - k - 1 by omega]
     have hz3 : 0 ≤ zT N v Z k ∧ zT N v Z k ≤ 1000000 := by
      unfold zT
      rw [if_pos (by omega)]
      have hr := h.rng (N - k - 1) (by omega) (by omega)
      have := h.p1 _ hr.1 hr.2
      have := hv _ hr.1 hr.2
      omega
     refine run_region <| rl_v rfl rfl rfl (ov_move rfl rfl) <| rl_v rfl rfl rfl (ov_move rfl rfl) <| rl_v rfl rfl rfl (ov_add rfl rfl rfl (by omega)) ?_
     refine rl_v rfl rfl rfl (ov_index1 rfl Tryz.underlying22 (by kernel_rfl) rfl rfl ⟨by omega, by omega⟩ (by rfl)) ?_
     refine rl_v rfl rfl rfl (ov_load rfl Tryz.underlying2 rfl rfl (by exact (hO6.cellI 1 rfl ((k : Int) + 1) (by omega) (by omega)).trans (congrArg some ((hst ((k : Int) + 1) (by omega) (by omega)).trans (congrArg iv hz2))))) ?_
     refine rl_v rfl rfl rfl (ov_sub rfl rfl rfl (by omega)) ?_
     refine rl_v rfl rfl rfl (ov_assign rfl rfl) <| rl_nil ?_
     refine Run.use (hk45 (zT N v Z k + 1 - 1) _ ?_) (And.intro (by exact slot_int rfl (by first | omega)) (And.intro rfl (And.intro rfl (And.intro rfl (And.intro rfl (And.intro rfl (And.intro rfl (And.intro rfl (And.intro rfl (And.intro rfl (And.intro rfl trivial)))))))))))
     exact ⟨by omega, hO6⟩
    ·refine run_skip ?_
     refine Run.use (hk45 (1000000) _ ?_) (And.intro (by exact slot_int rfl (by first | omega)) (And.intro rfl (And.intro rfl (And.intro rfl (And.intro rfl (And.intro rfl (And.intro rfl (And.intro rfl (And.intro rfl (And.intro rfl (And.intro rfl trivial)))))))))))
     exact ⟨by unfold zT; rw [if_neg (by omega)], hO6⟩
   ·intro to w44 hJw44
    obtain ⟨hto, hO7⟩ := hJw44
    show Run _ _ _ _ [(13, _), (3, _), (4, _), (5, _), (6, _), (9, _), (10, _), (12, _), (61, _), (62, _), (63, _)] _ _
    refine run_seq <| run_region <| rl_v rfl rfl rfl (ov_move rfl rfl) <| rl_v rfl rfl rfl (ov_leq rfl rfl rfl) <| rl_nil ?_
    first | refine run_cond_dec rfl (fun c5 => ?_) (fun c5 => ?_) | refine run_cond rfl (fun c5 => ?_) (fun c5 => ?_)
    ·obtain ⟨a10, k10, rfl⟩ := Row.val hr10
     refine run_region <| rl_v rfl rfl rfl (ov_move rfl rfl) <| rl_v rfl rfl rfl (ov_move rfl rfl) <| rl_v rfl rfl rfl (ov_move rfl rfl) <| rl_v rfl rfl rfl (ov_move rfl rfl) <| rl_v rfl rfl rfl (ov_move rfl rfl) <| rl_v rfl rfl rfl (ov_buildL rfl lay_69 rfl (us := [_, _, _, _]) rfl) <| rl_ow rfl (ow_build [_] rfl rfl rfl rfl rfl Tryz.underlying66 info_69 (by decide) hO7 rfl rfl) ?_
     rintro _ w46 ⟨b97, rfl, hO47, hs48⟩
     refine rl_ow rfl (ow_appR1 rfl rfl rfl Tryz.underlying66 info_69 rfl rfl hO47 0 hr10 rfl rfl rfl rfl rfl ⟨by omega, by omega⟩) ?_
     rintro _ w49 ⟨v98, c98, rfl, hO50, hr98, hs51⟩
     have hr99 : SRow v98 69 4 (k + 1) (znF (zonesL N n v Z)) c98 := hr98.congr fun j j0 j1 => by
      by_cases e : j = (k : Int)
      ·rw [e, upd_same]; unfold znF zonesL; dsimp only; rw [hto, hdk2, huk2]
      ·rw [upd_ne _ _ e]
     refine rl_v rfl rfl rfl (ov_assign rfl rfl) <| rl_nil <| run_inBlock <| run_region <| rl_v rfl rfl rfl (ov_add rfl rfl rfl (by omega)) ?_
     refine rl_v rfl rfl rfl (ov_move rfl rfl) <| rl_nil ?_
     refine Run.use (ih43 (k + 1) (d2 - dk) (s2 + uk) (v98) _ ?_ ?_) (And.intro (by exact slot_int rfl (by first | omega)) (And.intro (by exact slot_int rfl (by first | omega)) (And.intro (by exact slot_int rfl (by first | omega)) (And.intro rfl (And.intro rfl (And.intro rfl (And.intro rfl (And.intro rfl (And.intro rfl trivial)))))))))
     ·first | omega | (dsimp only; omega)
     ·exact ⟨by omega, c98, by omega, by rw [huk2, if_neg (by omega)], hr99, hO50⟩
    ·exfalso; omega
  ·have hkn : k = N + 1 := by omega
   subst hkn
   obtain ⟨a10, k10, rfl⟩ := Row.val hr10
   refine run_exit rfl <| run_seq <| run_region <| rl_v rfl rfl rfl (ov_move rfl rfl) <| rl_v rfl rfl rfl (ov_assign rfl rfl) <| rl_nil <| run_ret Tryz.func35 (res1 Tryz.results35 rfl) ?_
   exact ⟨a10, k10, c10, rfl, hr10, hO6.sub (.cons_cons _ (List.nil_sublist _))⟩
end Go.Proofs.YtbcjfjldmfljgaaGreat
